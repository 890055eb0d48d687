-- Printed by a program of this session's over the kit's printer (wip/patch_print.py).
import Derived.Test.YtfiffhcpgojkhaaQFlowBlocksx0
namespace Go.Proofs.Ytfiffhcpgojkhaa.QFlowBlocks
open Go.RowKit Go.Proofs.Ytfiffhcpgojkhaa Go.Proofs.YtfiffhcpgojkhaaW.PrintWords Go.Proofs.YtfiffhcpgojkhaaW.PrintLast Go.Proofs.YtfiffhcpgojkhaaW.PrintMore
attribute [-simp] List.drop_one
attribute [local go_sem] setCell_drewN0 max2_int min2_int max_two min_two max_three min_three max_four min_four   -- for this text's walks alone
set_option linter.unusedVariables false
set_option linter.unusedSimpArgs false

/-! ### refs_Jump: function 76 -/
theorem p1_0 {P : Prop} (h : P := by repeat (first | (with_reducible first | exact HB.out | apply below_alloc | apply pw_below_drewN | apply below_drew1 | refine below_set ?_ GE102.out) | exact HB.out)) : P := h
theorem p1_1 {P : Prop} (h : P := by (with_reducible repeat (first | refine blk_drewN ?_ _ | refine blk_drew ?_ | refine blk_alloc ?_ _)); exact BK102.out) : P := h
theorem p1_2 {P : Prop} (h : P := by repeat (first | (with_reducible first | exact HB.out | apply below_alloc | apply pw_below_drewN | apply below_drew1) | exact HB.out)) : P := h
theorem p1_3 {P : Prop} (h : P := by first | rfl | (simp; done) | (simp [*]; done)) : P := h
theorem p1_4 {P : Prop} (h : P := by first | (with_reducible assumption) | assumption) : P := h
theorem p1_5 {P : Prop} (h : P := by (try simp only [List.map_toArray, List.map_cons, List.map_nil]); first | done | rfl | (simp only [List.length_drop, List.length_take]; rfl)) : P := h
mutual
def refs_Jump.j0 : Nat → List (S44) → Int → Bool → Option (Int)
 | 0, _, _, _ => none
 | k + 1, x0, x1, x17 => if x17 = true then (some 0) else (if 0 ≤ x1 then (if x1 < (x0.length : Int) then (if ((rd_T44 x0 x1).f0) = 30 then (refs_Jump.j1 k x0 x1 true ((rd_T44 x0 x1).f0) (((rd_T44 x0 x1).f0) == 30) ((rd_T44 x0 x1).f0) ((rd_T44 x0 x1).f1) ((rd_T44 x0 x1).f2)) else (refs_Jump.j1 k x0 x1 true ((rd_T44 x0 x1).f0) (((rd_T44 x0 x1).f0) == 31) ((rd_T44 x0 x1).f0) ((rd_T44 x0 x1).f1) ((rd_T44 x0 x1).f2))) else (none)) else (none))
def refs_Jump.j1 : Nat → List (S44) → Int → Bool → Int → Bool → Int → Int → Int → Option (Int)
 | 0, _, _, _, _, _, _, _, _ => none
 | k + 1, x0, x1, x6, x23, x24, x103000, x103001, x103002 => if x24 = true then (if x103001 ≥ 0 then (if (x103001 < (x0.length : Int)) then (some 0) else (some 11)) else (some 11)) else (if x23 = 32 then (if 0 ≤ (wrap64 (x1 + 1)) then (if (wrap64 (x1 + 1)) ≤ (x0.length : Int) then ((some (x0.drop ((wrap64 (x1 + 1)) : Int).toNat : List (S44))).bind fun y103 => (if x103001 < 0 then (refs_Jump.j2 k x6 y103 true x103000 x103001 x103002) else (refs_Jump.j2 k x6 y103 (decide (x103001 ≥ (y103.length : Int))) x103000 x103001 x103002))) else (none)) else (none)) else (if x6 = true then (some 0) else (some 11)))
def refs_Jump.j2 : Nat → Bool → List (S44) → Bool → Int → Int → Int → Option (Int)
 | 0, _, _, _, _, _, _ => none
 | k + 1, x6, x7, x52, x103000, x103001, x103002 => if x52 = true then (some 11) else (if 0 ≤ x103001 then (if x103001 ≤ (x7.length : Int) then ((some (x7.take (x103001 : Int).toNat : List (S44))).bind fun y107 => (refs_Jump.l0 k x6 y107 (y107.length : Int) 0)) else (none)) else (none))
def refs_Jump.l0 : Nat → Bool → List (S44) → Int → Int → Option (Int)
 | 0, _, _, _, _ => none
 | k + 1, x6, x56, x57, x58 => if x58 < x57 then (if 0 ≤ x58 then (if x58 < (x56.length : Int) then (if ((rd_T44 x56 x58).f0) = 30 then (refs_Jump.l0 k x6 x56 x57 (wrap64 (x58 + 1))) else (some 11)) else (none)) else (none)) else (if x6 = true then (some 0) else (some 11))
end
def refs_Jump.f (k : Nat) (l0 : List (S44)) (a1 : Int) : Option (Int) := if a1 < 0 then (refs_Jump.j0 k l0 a1 true) else (refs_Jump.j0 k l0 a1 (decide (a1 ≥ (l0.length : Int))))
theorem refs_Jump.mono_l : ∀ k, (∀ y0 y1 y2, LeO (refs_Jump.j0 k y0 y1 y2) (refs_Jump.j0 (k + 1) y0 y1 y2)) ∧ (∀ y0 y1 y2 y3 y4 y5 y6 y7, LeO (refs_Jump.j1 k y0 y1 y2 y3 y4 y5 y6 y7) (refs_Jump.j1 (k + 1) y0 y1 y2 y3 y4 y5 y6 y7)) ∧ (∀ y0 y1 y2 y3 y4 y5, LeO (refs_Jump.j2 k y0 y1 y2 y3 y4 y5) (refs_Jump.j2 (k + 1) y0 y1 y2 y3 y4 y5)) ∧ (∀ y0 y1 y2 y3, LeO (refs_Jump.l0 k y0 y1 y2 y3) (refs_Jump.l0 (k + 1) y0 y1 y2 y3))
 | 0 => ⟨fun _ _ _ r h => by simp [refs_Jump.j0] at h, fun _ _ _ _ _ _ _ _ r h => by simp [refs_Jump.j1] at h, fun _ _ _ _ _ _ r h => by simp [refs_Jump.j2] at h, fun _ _ _ _ r h => by simp [refs_Jump.l0] at h⟩
 | k + 1 => by
  obtain ⟨ih0, ih1, ih2, ih3⟩ := refs_Jump.mono_l k
  refine ⟨?_, ?_, ?_, ?_⟩
  ·
   intro y0 y1 y2
   unfold refs_Jump.j0
   repeat' first
   | (with_reducible exact ih0 _ _ _)
   | (with_reducible exact ih1 _ _ _ _ _ _ _ _)
   | (with_reducible exact ih2 _ _ _ _ _ _)
   | (with_reducible exact ih3 _ _ _ _)
   | (with_reducible exact LeO.refl _)
   | (with_reducible exact LeO.none _)
   | (with_reducible refine LeO.ite ?_ ?_)
   | (with_reducible refine LeO.bind ?_ (fun _ => ?_))
   | exact ih0 _ _ _
   | exact ih1 _ _ _ _ _ _ _ _
   | exact ih2 _ _ _ _ _ _
   | exact ih3 _ _ _ _
   | exact LeO.none _
   | refine LeO.ite ?_ ?_
   | refine LeO.bind ?_ (fun _ => ?_)
  ·
   intro y0 y1 y2 y3 y4 y5 y6 y7
   unfold refs_Jump.j1
   repeat' first
   | (with_reducible exact ih0 _ _ _)
   | (with_reducible exact ih1 _ _ _ _ _ _ _ _)
   | (with_reducible exact ih2 _ _ _ _ _ _)
   | (with_reducible exact ih3 _ _ _ _)
   | (with_reducible exact LeO.refl _)
   | (with_reducible exact LeO.none _)
   | (with_reducible refine LeO.ite ?_ ?_)
   | (with_reducible refine LeO.bind ?_ (fun _ => ?_))
   | exact ih0 _ _ _
   | exact ih1 _ _ _ _ _ _ _ _
   | exact ih2 _ _ _ _ _ _
   | exact ih3 _ _ _ _
   | exact LeO.none _
   | refine LeO.ite ?_ ?_
   | refine LeO.bind ?_ (fun _ => ?_)
  ·
   intro y0 y1 y2 y3 y4 y5
   unfold refs_Jump.j2
   repeat' first
   | (with_reducible exact ih0 _ _ _)
   | (with_reducible exact ih1 _ _ _ _ _ _ _ _)
   | (with_reducible exact ih2 _ _ _ _ _ _)
   | (with_reducible exact ih3 _ _ _ _)
   | (with_reducible exact LeO.refl _)
   | (with_reducible exact LeO.none _)
   | (with_reducible refine LeO.ite ?_ ?_)
   | (with_reducible refine LeO.bind ?_ (fun _ => ?_))
   | exact ih0 _ _ _
   | exact ih1 _ _ _ _ _ _ _ _
   | exact ih2 _ _ _ _ _ _
   | exact ih3 _ _ _ _
   | exact LeO.none _
   | refine LeO.ite ?_ ?_
   | refine LeO.bind ?_ (fun _ => ?_)
  ·
   intro y0 y1 y2 y3
   unfold refs_Jump.l0
   repeat' first
   | (with_reducible exact ih0 _ _ _)
   | (with_reducible exact ih1 _ _ _ _ _ _ _ _)
   | (with_reducible exact ih2 _ _ _ _ _ _)
   | (with_reducible exact ih3 _ _ _ _)
   | (with_reducible exact LeO.refl _)
   | (with_reducible exact LeO.none _)
   | (with_reducible refine LeO.ite ?_ ?_)
   | (with_reducible refine LeO.bind ?_ (fun _ => ?_))
   | exact ih0 _ _ _
   | exact ih1 _ _ _ _ _ _ _ _
   | exact ih2 _ _ _ _ _ _
   | exact ih3 _ _ _ _
   | exact LeO.none _
   | refine LeO.ite ?_ ?_
   | refine LeO.bind ?_ (fun _ => ?_)
theorem refs_Jump.mono : ∀ a0 a1 k, LeO (refs_Jump.f k a0 a1) (refs_Jump.f (k + 1) a0 a1) := by
 intro a0 a1 k
 obtain ⟨ih0, ih1, ih2, ih3⟩ := refs_Jump.mono_l k
 unfold refs_Jump.f
 repeat' first
   | (with_reducible exact ih0 _ _ _)
   | (with_reducible exact ih1 _ _ _ _ _ _ _ _)
   | (with_reducible exact ih2 _ _ _ _ _ _)
   | (with_reducible exact ih3 _ _ _ _)
   | (with_reducible exact LeO.refl _)
   | (with_reducible exact LeO.none _)
   | (with_reducible refine LeO.ite ?_ ?_)
   | (with_reducible refine LeO.bind ?_ (fun _ => ?_))
   | exact ih0 _ _ _
   | exact ih1 _ _ _ _ _ _ _ _
   | exact ih2 _ _ _ _ _ _
   | exact ih3 _ _ _ _
   | exact LeO.none _
   | refine LeO.ite ?_ ?_
   | refine LeO.bind ?_ (fun _ => ?_)
set_option maxHeartbeats 8000000 in
set_option maxRecDepth 100000 in
theorem refs_Jump.calls (k : Nat) (A0 : Option Addr) (c0 : Nat) (l0 : List (S44)) (a1 : Int) (r : Int) (w : World) (hr0 : Kd.C k44 w A0 l0.length l0) (hc0 : l0.length ≤ c0) (h : refs_Jump.f k l0 a1 = some r) :
  Calls Try.prog 76 #[.slice A0 l0.length c0, .int .i64 a1] w fun e w' => e = .returned (.int .i64 r) ∧ Below w.heap.size w w' := by
 have hu44 := Try.underlying44
 have HR0 := Aside0.mk hr0
 have HC0 := Aside0.mk hc0
 clear hr0 hc0
 have HB := Aside0.mk (Below.refl w.heap.size w)
 have H : (if a1 < 0 then (refs_Jump.j0 k l0 a1 true) else (refs_Jump.j0 k l0 a1 (decide (a1 ≥ (l0.length : Int))))) = some r := h
 clear h
 have HC3 := Aside0.mk H
 clear H
 go_enter Try.func76, Try.ntmps76
 go_upto_region 1 with (go_step3)
 go_cut [17] from 10 to 17 (fun v17 wc => ∃ (kq : Nat) (x17_2 : Bool), v17 = .bool x17_2 ∧ Aside0 (refs_Jump.j0 kq l0 a1 x17_2 = some r) ∧ Aside0 (kq ≤ k) ∧ Aside0 (Below w.heap.size w wc))
 case first =>
  have H := HC3.out
  clear HC3
  by_cases c4 : a1 < 0
  ·
   rw [if_pos c4] at H
   have c4b0 : decide (a1 < 0) = true := decide_eq_true c4
   clear c4
   (first | rw [c4b0] | (simp only [i64_w, i32_w]; rw [c4b0]) | rw [c4b1] | skip)
   have H' := Aside0.mk H
   clear H
   go_wp2_with (go_step3)
   go_meet
   case rel => exact ⟨_, (true), p1_3, H', ⟨by first | omega | exact Nat.le_refl _⟩, ⟨by repeat (first | (with_reducible first | exact HB.out | apply below_alloc | apply pw_below_drewN | apply below_drew1) | exact HB.out)⟩⟩
  ·
   rw [if_neg c4] at H
   have c4b0 : decide (a1 < 0) = false := decide_eq_false c4
   clear c4
   (first | rw [c4b0] | (simp only [i64_w, i32_w]; rw [c4b0]) | rw [c4b1] | skip)
   have H' := Aside0.mk H
   clear H
   go_wp2_with (go_step3)
   go_meet
   case rel => exact ⟨_, (decide (a1 ≥ (l0.length : Int))), p1_3, H', ⟨by first | omega | exact Nat.le_refl _⟩, ⟨by repeat (first | (with_reducible first | exact HB.out | apply below_alloc | apply pw_below_drewN | apply below_drew1) | exact HB.out)⟩⟩
 case rest =>
  clear HC3
  obtain ⟨kq, x17_2, rfl, HA, HJ2, HB⟩ := hcut
  cases kq with
  | zero => exact absurd HA.out (by simp [refs_Jump.j0])
  | succ kj2 =>
   have H := HA.out
   clear HA
   simp only [refs_Jump.j0] at H
   by_cases c5 : x17_2 = true
   ·
    subst c5
    have H1 : (some 0) = some r := by rw [if_pos rfl] at H; exact H
    clear H
    have H := H1
    clear H1
    obtain rfl := Option.some.inj H
    go_wp2_with (go_step3)
    (try simp only [Go.Exit.noGoto_ret])
    go_ret
    exact ⟨by first | rfl | (simp [errW_none, errW_some] <;> rfl) | (simp [*, errW_none, errW_some] <;> rfl), by repeat (first | (with_reducible first | exact HB.out | apply below_alloc | apply pw_below_drewN | apply below_drew1) | exact HB.out)⟩
   ·
    replace c5 := Bool.eq_false_iff.mpr c5
    subst c5
    have H1 : (if 0 ≤ a1 then (if a1 < (l0.length : Int) then (if ((rd_T44 l0 a1).f0) = 30 then (refs_Jump.j1 kj2 l0 a1 true ((rd_T44 l0 a1).f0) (((rd_T44 l0 a1).f0) == 30) ((rd_T44 l0 a1).f0) ((rd_T44 l0 a1).f1) ((rd_T44 l0 a1).f2)) else (refs_Jump.j1 kj2 l0 a1 true ((rd_T44 l0 a1).f0) (((rd_T44 l0 a1).f0) == 31) ((rd_T44 l0 a1).f0) ((rd_T44 l0 a1).f1) ((rd_T44 l0 a1).f2))) else (none)) else (none)) = some r := by rw [if_neg (show ¬ (false = true) by decide)] at H; exact H
    clear H
    have H := H1
    clear H1
    by_cases c6 : 0 ≤ a1
    ·
     rw [if_pos c6] at H
     have c6b0 : decide (0 ≤ a1) = true := decide_eq_true c6
     clear c6
     by_cases c7 : a1 < (l0.length : Int)
     ·
      rw [if_pos c7] at H
      have c7b0 : decide (a1 < (l0.length : Int)) = true := decide_eq_true c7
      clear c7
      have HC8 := Aside0.mk H
      clear H
      have p101 : 0 ≤ (a1 : Int) := of_decide_eq_true p1_4
      have q101 : a1 < (l0.length : Int) := of_decide_eq_true p1_4
      obtain ⟨ad101, e101, hx101_0, hx101_1, hx101_2⟩ := at_T44 HR0.out a1 p101 q101
      cases e101
      replace hx101_0 := (HB.out.cell (World.block_lt_of_cell? w _ hx101_0)).trans hx101_0
      replace hx101_1 := (HB.out.cell (World.block_lt_of_cell? w _ hx101_1)).trans hx101_1
      replace hx101_2 := (HB.out.cell (World.block_lt_of_cell? w _ hx101_2)).trans hx101_2
      replace p101 := eq_true p101
      replace q101 := eq_true q101
      go_upto_if 24 with (first | go_step3 | ((with_reducible refine gate_dst (N := 5) rfl ?_); (try (refine gate_guard (by rfl) ?_; dsimp only)); refine box_event ?hg (N := 5) ?hd (cs := #[.int .i64 0, .int .i64 0, .int .i64 0]) (t := 44) ?hr ?_; (case hd => rfl); (case hg => rfl); (case hr => first | (go_simp; done) | (go_simp; rfl)); intro gb102 hg w9 hbox hb; have n0_ := Aside0.mk (below_step p1_2 hb); have n1_ := Aside0.mk (hbox); have n2_ := Aside0.mk ((by rw [hg]; exact (below_size p1_2) : w.heap.size ≤ gb102)); have n3_ := Aside0.mk ((by rw [hg]; exact (below_size p1_2) : w.heap.size ≤ gb102)); clear HB; have HB := n0_; have BK102 := n1_; have GW102 := n2_; have GE102 := n3_; clear n0_ n1_ n2_ n3_; clear hb hbox hg; have hcz10_0 : w9.cell? ⟨gb102, 0, none⟩ = some (.int .i64 0) := (blk_cell BK102.out 0).trans rfl; have hcz10_1 : w9.cell? ⟨gb102, 1, none⟩ = some (.int .i64 0) := (blk_cell BK102.out 1).trans rfl; have hcz10_2 : w9.cell? ⟨gb102, 2, none⟩ = some (.int .i64 0) := (blk_cell BK102.out 2).trans rfl; have hfz10_0 := blk_frozen BK102.out 0; have hfz10_1 := blk_frozen BK102.out 1; have hfz10_2 := blk_frozen BK102.out 2))
      (try simp only [Act.put, List.setIfInBounds_toArray, List.set_cons_zero, List.set_cons_succ])
      go_cut [24] from 24 to 26 (fun v24 wc => ∃ (kq : Nat) (x24_7 : Bool), v24 = .bool x24_7 ∧ Aside0 (refs_Jump.j1 kq l0 a1 true ((rd_T44 l0 a1).f0) x24_7 ((rd_T44 l0 a1).f0) ((rd_T44 l0 a1).f1) ((rd_T44 l0 a1).f2) = some r) ∧ Aside0 (kq ≤ kj2) ∧ Aside0 (wc.heap[gb102]? = some (.cells #[.int .i64 ((rd_T44 l0 a1).f0), .int .i64 ((rd_T44 l0 a1).f1), .int .i64 ((rd_T44 l0 a1).f2)] 44 (0, 0))) ∧ Aside0 (Below w.heap.size w wc))
      case first =>
       have H := HC8.out
       clear HC8
       by_cases c11 : ((rd_T44 l0 a1).f0) = 30
       ·
        rw [if_pos c11] at H
        have c11b0 : (((rd_T44 l0 a1).f0) == 30) = true := beq_iff_eq.mpr c11
        have c11b1 : (((rd_T44 l0 a1).f0) != 30) = false := bne_eq_false_iff_eq.mpr c11
        clear c11
        (first | rw [c11b0] | (simp only [i64_w, i32_w]; rw [c11b0]) | rw [c11b1] | skip)
        have H' := Aside0.mk H
        clear H
        go_wp2_with (go_step3)
        go_meet
        case rel => exact ⟨_, ((((rd_T44 l0 a1).f0) == 30)), p1_3, H', ⟨by have := HJ2.out; first | omega | exact Nat.le_refl _⟩, ⟨by (with_reducible repeat (first | refine blk_drewN ?_ _ | refine blk_drew ?_ | refine blk_alloc ?_ _)); refine blk_put (cs := #[.int .i64 ((rd_T44 l0 a1).f0), .int .i64 ((rd_T44 l0 a1).f1), .int .i64 0]) ?_ 2 _ rfl; (with_reducible repeat (first | refine blk_drewN ?_ _ | refine blk_drew ?_ | refine blk_alloc ?_ _)); refine blk_put (cs := #[.int .i64 ((rd_T44 l0 a1).f0), .int .i64 0, .int .i64 0]) ?_ 1 _ rfl; (with_reducible repeat (first | refine blk_drewN ?_ _ | refine blk_drew ?_ | refine blk_alloc ?_ _)); refine blk_put (cs := #[.int .i64 0, .int .i64 0, .int .i64 0]) ?_ 0 _ rfl; (with_reducible repeat (first | refine blk_drewN ?_ _ | refine blk_drew ?_ | refine blk_alloc ?_ _)); exact BK102.out⟩, ⟨by repeat (first | (with_reducible first | exact HB.out | apply below_alloc | apply pw_below_drewN | apply below_drew1 | refine below_set ?_ GE102.out) | exact HB.out)⟩⟩
       ·
        rw [if_neg c11] at H
        have c11b0 : (((rd_T44 l0 a1).f0) == 30) = false := beq_eq_false_iff_ne.mpr c11
        have c11b1 : (((rd_T44 l0 a1).f0) != 30) = true := bne_iff_ne.mpr c11
        (first | rw [c11b0] | (simp only [i64_w, i32_w]; rw [c11b0]) | rw [c11b1] | skip)
        have H' := Aside0.mk H
        clear H
        go_wp2_with (go_step3)
        go_meet
        case rel => exact ⟨_, ((((rd_T44 l0 a1).f0) == 31)), p1_3, H', ⟨by have := HJ2.out; first | omega | exact Nat.le_refl _⟩, ⟨by (with_reducible repeat (first | refine blk_drewN ?_ _ | refine blk_drew ?_ | refine blk_alloc ?_ _)); refine blk_put (cs := #[.int .i64 ((rd_T44 l0 a1).f0), .int .i64 ((rd_T44 l0 a1).f1), .int .i64 0]) ?_ 2 _ rfl; (with_reducible repeat (first | refine blk_drewN ?_ _ | refine blk_drew ?_ | refine blk_alloc ?_ _)); refine blk_put (cs := #[.int .i64 ((rd_T44 l0 a1).f0), .int .i64 0, .int .i64 0]) ?_ 1 _ rfl; (with_reducible repeat (first | refine blk_drewN ?_ _ | refine blk_drew ?_ | refine blk_alloc ?_ _)); refine blk_put (cs := #[.int .i64 0, .int .i64 0, .int .i64 0]) ?_ 0 _ rfl; (with_reducible repeat (first | refine blk_drewN ?_ _ | refine blk_drew ?_ | refine blk_alloc ?_ _)); exact BK102.out⟩, ⟨by repeat (first | (with_reducible first | exact HB.out | apply below_alloc | apply pw_below_drewN | apply below_drew1 | refine below_set ?_ GE102.out) | exact HB.out)⟩⟩
      case rest =>
       clear HC8
       (try clear c5); (try clear c6); (try clear c6b0); (try clear c7); (try clear c7b0); (try clear hcz10_0); (try clear hcz10_1); (try clear hcz10_2); (try clear hfz10_0); (try clear hfz10_1); (try clear hfz10_2); (try clear hx101_0); (try clear hx101_1); (try clear hx101_2); (try clear p101); (try clear q101)
       obtain ⟨kq, x24_7, rfl, HA, HJ7, BK102, HB⟩ := hcut
       cases kq with
       | zero => exact absurd HA.out (by simp [refs_Jump.j1])
       | succ kj7 =>
        have H := HA.out
        clear HA
        simp only [refs_Jump.j1] at H
        by_cases c12 : x24_7 = true
        ·
         subst c12
         have H1 : (if ((rd_T44 l0 a1).f1) ≥ 0 then (if (((rd_T44 l0 a1).f1) < (l0.length : Int)) then (some 0) else (some 11)) else (some 11)) = some r := by rw [if_pos rfl] at H; exact H
         clear H
         have H := H1
         clear H1
         by_cases c13 : ((rd_T44 l0 a1).f1) ≥ 0
         ·
          rw [if_pos c13] at H
          have c13b0 : decide (0 ≤ ((rd_T44 l0 a1).f1)) = true := decide_eq_true c13
          clear c13
          by_cases c14 : (((rd_T44 l0 a1).f1) < (l0.length : Int))
          ·
           rw [if_pos c14] at H
           have c14b0 : decide (((rd_T44 l0 a1).f1) < (l0.length : Int)) = true := decide_eq_true c14
           clear c14
           obtain rfl := Option.some.inj H
           obtain ⟨hcz15_0, hcz15_1, hcz15_2⟩ := box3_ BK102.out
           obtain ⟨hfz15_0, hfz15_1, hfz15_2⟩ := frz3_ BK102.out
           go_wp2_with (go_step3)
           (try simp only [Go.Exit.noGoto_ret])
           go_ret
           exact ⟨by first | rfl | (simp [errW_none, errW_some] <;> rfl) | (simp [*, errW_none, errW_some] <;> rfl), by repeat (first | (with_reducible first | exact HB.out | apply below_alloc | apply pw_below_drewN | apply below_drew1 | refine below_set ?_ GE102.out) | exact HB.out)⟩
          ·
           rw [if_neg c14] at H
           have c14b0 : decide (((rd_T44 l0 a1).f1) < (l0.length : Int)) = false := decide_eq_false c14
           clear c14
           obtain rfl := Option.some.inj H
           obtain ⟨hcz16_0, hcz16_1, hcz16_2⟩ := box3_ BK102.out
           obtain ⟨hfz16_0, hfz16_1, hfz16_2⟩ := frz3_ BK102.out
           go_wp2_with (go_step3)
           (try simp only [Go.Exit.noGoto_ret])
           go_ret
           exact ⟨by first | rfl | (simp [errW_none, errW_some] <;> rfl) | (simp [*, errW_none, errW_some] <;> rfl), by repeat (first | (with_reducible first | exact HB.out | apply below_alloc | apply pw_below_drewN | apply below_drew1 | refine below_set ?_ GE102.out) | exact HB.out)⟩
         ·
          rw [if_neg c13] at H
          have c13b0 : decide (0 ≤ ((rd_T44 l0 a1).f1)) = false := decide_eq_false c13
          clear c13
          obtain rfl := Option.some.inj H
          obtain ⟨hcz17_0, hcz17_1, hcz17_2⟩ := box3_ BK102.out
          obtain ⟨hfz17_0, hfz17_1, hfz17_2⟩ := frz3_ BK102.out
          go_wp2_with (go_step3)
          (try simp only [Go.Exit.noGoto_ret])
          go_ret
          exact ⟨by first | rfl | (simp [errW_none, errW_some] <;> rfl) | (simp [*, errW_none, errW_some] <;> rfl), by repeat (first | (with_reducible first | exact HB.out | apply below_alloc | apply pw_below_drewN | apply below_drew1 | refine below_set ?_ GE102.out) | exact HB.out)⟩
        ·
         replace c12 := Bool.eq_false_iff.mpr c12
         subst c12
         have H1 : (if ((rd_T44 l0 a1).f0) = 32 then (if 0 ≤ (wrap64 (a1 + 1)) then (if (wrap64 (a1 + 1)) ≤ (l0.length : Int) then ((some (l0.drop ((wrap64 (a1 + 1)) : Int).toNat : List (S44))).bind fun y103 => (if ((rd_T44 l0 a1).f1) < 0 then (refs_Jump.j2 kj7 true y103 true ((rd_T44 l0 a1).f0) ((rd_T44 l0 a1).f1) ((rd_T44 l0 a1).f2)) else (refs_Jump.j2 kj7 true y103 (decide (((rd_T44 l0 a1).f1) ≥ (y103.length : Int))) ((rd_T44 l0 a1).f0) ((rd_T44 l0 a1).f1) ((rd_T44 l0 a1).f2)))) else (none)) else (none)) else (if true = true then (some 0) else (some 11))) = some r := by rw [if_neg (show ¬ (false = true) by decide)] at H; exact H
         clear H
         have H := H1
         clear H1
         by_cases c18 : ((rd_T44 l0 a1).f0) = 32
         ·
          rw [if_pos c18] at H
          have c18b0 : (((rd_T44 l0 a1).f0) == 32) = true := beq_iff_eq.mpr c18
          have c18b1 : (((rd_T44 l0 a1).f0) != 32) = false := bne_eq_false_iff_eq.mpr c18
          clear c18
          obtain ⟨ji19, hji19⟩ : ∃ j_ : Int, (wrap64 (a1 + 1)) = j_ := ⟨_, rfl⟩
          replace H : (if 0 ≤ (ji19) then (if (ji19) ≤ (l0.length : Int) then ((some (l0.drop ((ji19) : Int).toNat : List (S44))).bind fun y103 => (if ((rd_T44 l0 a1).f1) < 0 then (refs_Jump.j2 kj7 true y103 true ((rd_T44 l0 a1).f0) ((rd_T44 l0 a1).f1) ((rd_T44 l0 a1).f2)) else (refs_Jump.j2 kj7 true y103 (decide (((rd_T44 l0 a1).f1) ≥ (y103.length : Int))) ((rd_T44 l0 a1).f0) ((rd_T44 l0 a1).f1) ((rd_T44 l0 a1).f2)))) else (none)) else (none)) = some r := by first | (rw [hji19] at H; exact H) | (simp only [hji19] at H ⊢; exact H)
          have hji19w : (IntKind.i64.wrap (a1 + 1)) = ji19 := (i64_w _).trans hji19
          by_cases c20 : 0 ≤ (ji19)
          ·
           rw [if_pos c20] at H
           have c20b0 := eq_true c20
           have c20b1 : decide (0 ≤ (ji19)) = true := decide_eq_true c20
           clear c20
           by_cases c21 : (ji19) ≤ (l0.length : Int)
           ·
            rw [if_pos c21] at H
            have c21b0 := eq_true c21
            have c21b1 : decide ((ji19) ≤ (l0.length : Int)) = true := decide_eq_true c21
            clear c21
            obtain ⟨y103, hy103⟩ : ∃ y_ : List (S44), y_ = (l0.drop ((ji19) : Int).toNat) := ⟨_, rfl⟩
            replace H : (if ((rd_T44 l0 a1).f1) < 0 then (refs_Jump.j2 kj7 true y103 true ((rd_T44 l0 a1).f0) ((rd_T44 l0 a1).f1) ((rd_T44 l0 a1).f2)) else (refs_Jump.j2 kj7 true y103 (decide (((rd_T44 l0 a1).f1) ≥ (y103.length : Int))) ((rd_T44 l0 a1).f0) ((rd_T44 l0 a1).f1) ((rd_T44 l0 a1).f2))) = some r := by first | (rw [hy103]; with_reducible exact H) | (have H2_ := (Option.bind_some _ _).symm.trans H; rw [hy103]; with_reducible exact H2_) | (have H2_ := (Option.bind_some _ _).symm.trans H; with_reducible exact H2_) | with_reducible exact H | (rw [hy103]; exact H) | exact H
            have Ny103 := Aside0.mk hy103
            clear hy103
            have HC22 := Aside0.mk H
            clear H
            have q23 : ((ji19) : Int) ≤ ((l0.length : Int) : Int) := of_decide_eq_true p1_4
            obtain ⟨i023, hi023, _, hsz23, _⟩ := info_parts info44
            have hroom23 : l0.length ≤ c0 := HC0.out
            have hC23 : Kd.C k44 _ (some ad101) l0.length l0 := HR0.out
            have q023 : (0 : Int) ≤ ((ji19) : Int) := of_decide_eq_true p1_4
            have hcut23 := cut_from (P := Try.prog) 31 44 .i64 Try.underlying31 hi023 3 hsz23 (some ad101) l0.length c0 (ji19) q023 q23
            have hr23 := Kd.C_drop (m := ((ji19) : Int).toNat) (c := c0) hC23 (by omega) hroom23
            obtain ⟨A23, hA23⟩ : ∃ A1, A1 = (if c0 = ((ji19) : Int).toNat then (some ad101) else ((some ad101) : Option Addr).map (·.add (((ji19) : Int).toNat * 3))) := ⟨_, rfl⟩
            obtain ⟨c23, hc23⟩ : ∃ c1, c1 = c0 - ((ji19) : Int).toNat := ⟨_, rfl⟩
            have hy23 : y103.length = l0.length - ((ji19) : Int).toNat := (by rw [Ny103.out, List.length_drop] <;> omega)
            rw [show (l0).drop ((ji19) : Int).toNat = y103 from Ny103.out.symm] at hr23
            replace hr23 : Kd.C k44 _ A23 y103.length y103 := (by rw [hA23]; exact hr23)
            rw [← hy23, ← hA23, ← hc23] at hcut23
            have HR106 := Aside0.mk hr23
            have HC106 := Aside0.mk (show y103.length ≤ c23 from by rw [hy23, hc23]; exact Nat.sub_le_sub_right hroom23 _)
            clear hr23 hC23 hroom23 hi023 hsz23 hc23
            have KY23 := Aside0.mk hy23
            have KA23 := Aside0.mk hA23
            clear hy23 hA23
            replace q23 := eq_true q23
            go_upto_region 11 with (go_step3)
            go_cut [52] from 38 to 52 (fun v52 wc => ∃ (kq : Nat) (x52_21 : Bool), v52 = .bool x52_21 ∧ Aside0 (refs_Jump.j2 kq true y103 x52_21 ((rd_T44 l0 a1).f0) ((rd_T44 l0 a1).f1) ((rd_T44 l0 a1).f2) = some r) ∧ Aside0 (kq ≤ kj7) ∧ Aside0 (wc.heap[gb102]? = some (.cells #[.int .i64 ((rd_T44 l0 a1).f0), .int .i64 ((rd_T44 l0 a1).f1), .int .i64 ((rd_T44 l0 a1).f2)] 44 (0, 0))) ∧ Aside0 (Below w.heap.size w wc))
            case first =>
             have H := HC22.out
             clear HC22
             by_cases c24 : ((rd_T44 l0 a1).f1) < 0
             ·
              rw [if_pos c24] at H
              have c24b0 : decide (((rd_T44 l0 a1).f1) < 0) = true := decide_eq_true c24
              clear c24
              (first | rw [c24b0] | (simp only [i64_w, i32_w]; rw [c24b0]) | rw [c24b1] | skip)
              have H' := Aside0.mk H
              clear H
              obtain ⟨hcz25_0, hcz25_1, hcz25_2⟩ := box3_ BK102.out
              obtain ⟨hfz25_0, hfz25_1, hfz25_2⟩ := frz3_ BK102.out
              go_wp2_with (go_step3)
              go_meet
              case rel => exact ⟨_, (true), p1_3, H', ⟨by have := HJ2.out; have := HJ7.out; first | omega | exact Nat.le_refl _⟩, ⟨by (with_reducible repeat (first | refine blk_drewN ?_ _ | refine blk_drew ?_ | refine blk_alloc ?_ _)); exact BK102.out⟩, ⟨by repeat (first | (with_reducible first | exact HB.out | apply below_alloc | apply pw_below_drewN | apply below_drew1 | refine below_set ?_ GE102.out) | exact HB.out)⟩⟩
             ·
              rw [if_neg c24] at H
              have c24b0 : decide (((rd_T44 l0 a1).f1) < 0) = false := decide_eq_false c24
              clear c24
              (first | rw [c24b0] | (simp only [i64_w, i32_w]; rw [c24b0]) | rw [c24b1] | skip)
              have H' := Aside0.mk H
              clear H
              obtain ⟨hcz26_0, hcz26_1, hcz26_2⟩ := box3_ BK102.out
              obtain ⟨hfz26_0, hfz26_1, hfz26_2⟩ := frz3_ BK102.out
              go_wp2_with (go_step3)
              go_meet
              case rel => exact ⟨_, (decide (((rd_T44 l0 a1).f1) ≥ (y103.length : Int))), p1_3, H', ⟨by have := HJ2.out; have := HJ7.out; first | omega | exact Nat.le_refl _⟩, ⟨by (with_reducible repeat (first | refine blk_drewN ?_ _ | refine blk_drew ?_ | refine blk_alloc ?_ _)); exact BK102.out⟩, ⟨by repeat (first | (with_reducible first | exact HB.out | apply below_alloc | apply pw_below_drewN | apply below_drew1 | refine below_set ?_ GE102.out) | exact HB.out)⟩⟩
            case rest =>
             clear HC22
             (try clear c1); (try clear c12); (try clear c18); (try clear c18b0); (try clear c18b1); (try clear c20); (try clear c20b0); (try clear c20b1); (try clear c21); (try clear c21b0); (try clear c21b1); (try clear c23); (try clear q23); (try clear q023)
             obtain ⟨kq, x52_21, rfl, HA, HJ21, BK102, HB⟩ := hcut
             cases kq with
             | zero => exact absurd HA.out (by simp [refs_Jump.j2])
             | succ kj21 =>
              have H := HA.out
              clear HA
              simp only [refs_Jump.j2] at H
              by_cases c27 : x52_21 = true
              ·
               subst c27
               have H1 : (some 11) = some r := by rw [if_pos rfl] at H; exact H
               clear H
               have H := H1
               clear H1
               obtain rfl := Option.some.inj H
               go_wp2_with (go_step3)
               (try simp only [Go.Exit.noGoto_ret])
               go_ret
               exact ⟨by first | rfl | (simp [errW_none, errW_some] <;> rfl) | (simp only [← hji19]; first | rfl | (simp [errW_none, errW_some] <;> rfl)) | (simp [*, errW_none, errW_some] <;> rfl), by repeat (first | (with_reducible first | exact HB.out | apply below_alloc | apply pw_below_drewN | apply below_drew1 | refine below_set ?_ GE102.out) | exact HB.out)⟩
              ·
               replace c27 := Bool.eq_false_iff.mpr c27
               subst c27
               have H1 : (if 0 ≤ ((rd_T44 l0 a1).f1) then (if ((rd_T44 l0 a1).f1) ≤ (y103.length : Int) then ((some (y103.take (((rd_T44 l0 a1).f1) : Int).toNat : List (S44))).bind fun y107 => (refs_Jump.l0 kj21 true y107 (y107.length : Int) 0)) else (none)) else (none)) = some r := by rw [if_neg (show ¬ (false = true) by decide)] at H; exact H
               clear H
               have H := H1
               clear H1
               by_cases c28 : 0 ≤ ((rd_T44 l0 a1).f1)
               ·
                rw [if_pos c28] at H
                have c28b0 := eq_true c28
                have c28b1 : decide (0 ≤ ((rd_T44 l0 a1).f1)) = true := decide_eq_true c28
                clear c28
                by_cases c29 : ((rd_T44 l0 a1).f1) ≤ (y103.length : Int)
                ·
                 rw [if_pos c29] at H
                 have c29b0 := eq_true c29
                 have c29b1 : decide (((rd_T44 l0 a1).f1) ≤ (y103.length : Int)) = true := decide_eq_true c29
                 clear c29
                 obtain ⟨y107, hy107⟩ : ∃ y_ : List (S44), y_ = (y103.take (((rd_T44 l0 a1).f1) : Int).toNat) := ⟨_, rfl⟩
                 replace H : (refs_Jump.l0 kj21 true y107 (y107.length : Int) 0) = some r := by first | (rw [hy107]; with_reducible exact H) | (have H2_ := (Option.bind_some _ _).symm.trans H; rw [hy107]; with_reducible exact H2_) | (have H2_ := (Option.bind_some _ _).symm.trans H; with_reducible exact H2_) | with_reducible exact H | (rw [hy107]; exact H) | exact H
                 have Ny107 := Aside0.mk hy107
                 clear hy107
                 have H' := Aside0.mk H
                 clear H
                 obtain ⟨hcz30_0, hcz30_1, hcz30_2⟩ := box3_ BK102.out
                 obtain ⟨hfz30_0, hfz30_1, hfz30_2⟩ := frz3_ BK102.out
                 have q31 : (((rd_T44 l0 a1).f1) : Int) ≤ ((y103.length : Int) : Int) := of_decide_eq_true p1_4
                 obtain ⟨i031, hi031, _, hsz31, _⟩ := info_parts info44
                 have hroom31 : y103.length ≤ c23 := HC106.out
                 have hC31 : Kd.C k44 _ A23 y103.length y103 := HR106.out
                 have hcut31 := cut_to (P := Try.prog) 31 44 .i64 Try.underlying31 hi031 A23 y103.length c23 ((rd_T44 l0 a1).f1) (of_decide_eq_true p1_4) q31 hroom31
                 have hr31 := Kd.C_take (m := (((rd_T44 l0 a1).f1) : Int).toNat) hC31 (by omega)
                 have hy31 : y107.length = (((rd_T44 l0 a1).f1) : Int).toNat := (by rw [Ny107.out, List.length_take]; omega)
                 rw [← Ny107.out] at hr31
                 rw [← hy31] at hcut31
                 have HR110 := Aside0.mk hr31
                 have HC110 := Aside0.mk (show y107.length ≤ c23 from by omega)
                 clear hr31 hC31 hroom31 hi031 hsz31
                 have KY31 := Aside0.mk hy31
                 clear hy31
                 replace q31 := eq_true q31
                 go_wp2_with (go_step3)
                 go_loopg [6, 58] kj21 (fun kq v6 v58 w' => ∃ (x6_4 : Bool) (x58_4 : Int), v6 = .bool x6_4 ∧ v58 = .int .i64 x58_4 ∧ Aside0 (refs_Jump.l0 kq x6_4 y107 (y107.length : Int) x58_4 = some r) ∧ Aside0 (kq ≤ kj21) ∧ Aside0 (w'.heap[gb102]? = some (.cells #[.int .i64 ((rd_T44 l0 a1).f0), .int .i64 ((rd_T44 l0 a1).f1), .int .i64 ((rd_T44 l0 a1).f2)] 44 (0, 0))) ∧ Aside0 (Below w.heap.size w w'))
                 case atStart => exact ⟨(true), (0), p1_3, p1_3, H', ⟨Nat.le_refl _⟩, ⟨by (with_reducible repeat (first | refine blk_drewN ?_ _ | refine blk_drew ?_ | refine blk_alloc ?_ _)); exact BK102.out⟩, ⟨by repeat (first | (with_reducible first | exact HB.out | apply below_alloc | apply pw_below_drewN | apply below_drew1 | refine below_set ?_ GE102.out) | exact HB.out)⟩⟩
                 case round =>
                  clear H'
                  (try clear c23); (try clear c27); (try clear c28); (try clear c28b0); (try clear c28b1); (try clear c29); (try clear c29b0); (try clear c29b1); (try clear q31); (try clear hcz30_0); (try clear hcz30_1); (try clear hcz30_2); (try clear hfz30_0); (try clear hfz30_1); (try clear hfz30_2)
                  obtain ⟨x6_4, x58_4, rfl, rfl, HA, HK4, BK102, HB⟩ := hrel
                  cases gk with
                  | zero => exact absurd HA.out (by simp [refs_Jump.l0])
                  | succ k4 =>
                   have H := HA.out
                   clear HA
                   simp only [refs_Jump.l0] at H
                   by_cases c32 : x58_4 < (y107.length : Int)
                   ·
                    rw [if_pos c32] at H
                    have c32b0 : decide (x58_4 < (y107.length : Int)) = true := decide_eq_true c32
                    clear c32
                    by_cases c33 : 0 ≤ x58_4
                    ·
                     rw [if_pos c33] at H
                     have c33b0 : decide (0 ≤ x58_4) = true := decide_eq_true c33
                     clear c33
                     by_cases c34 : x58_4 < (y107.length : Int)
                     ·
                      rw [if_pos c34] at H
                      have c34b0 : decide (x58_4 < (y107.length : Int)) = true := decide_eq_true c34
                      clear c34
                      by_cases c35 : ((rd_T44 y107 x58_4).f0) = 30
                      ·
                       rw [if_pos c35] at H
                       have c35b0 : (((rd_T44 y107 x58_4).f0) == 30) = true := beq_iff_eq.mpr c35
                       have c35b1 : (((rd_T44 y107 x58_4).f0) != 30) = false := bne_eq_false_iff_eq.mpr c35
                       clear c35
                       have H' := Aside0.mk H
                       clear H
                       have p111 : 0 ≤ (x58_4 : Int) := of_decide_eq_true p1_4
                       have q111 : x58_4 < (y107.length : Int) := of_decide_eq_true p1_4
                       obtain ⟨ad111, e111, hx111_0, hx111_1, hx111_2⟩ := at_T44 HR110.out x58_4 p111 q111
                       cases e111
                       replace hx111_0 := (HB.out.cell (World.block_lt_of_cell? w _ hx111_0)).trans hx111_0
                       replace hx111_1 := (HB.out.cell (World.block_lt_of_cell? w _ hx111_1)).trans hx111_1
                       replace hx111_2 := (HB.out.cell (World.block_lt_of_cell? w _ hx111_2)).trans hx111_2
                       replace p111 := eq_true p111
                       replace q111 := eq_true q111
                       go_wp2_with (first | go_step3 | ((with_reducible refine gate_dst (N := 9) rfl ?_); (try (refine gate_guard (by rfl) ?_; dsimp only)); refine box_event ?hg (N := 9) ?hd (cs := #[.int .i64 0, .int .i64 0, .int .i64 0]) (t := 44) ?hr ?_; (case hd => rfl); (case hg => rfl); (case hr => first | (go_simp; done) | (go_simp; rfl)); intro gb112 hg w36 hbox hb; have n0_ := Aside0.mk (blk_below (g := gb102) (o := .cells #[.int .i64 ((rd_T44 l0 a1).f0), .int .i64 ((rd_T44 l0 a1).f1), .int .i64 ((rd_T44 l0 a1).f2)] 44 (0, 0)) p1_1 hb); have n1_ := Aside0.mk (below_step p1_0 hb); have n2_ := Aside0.mk (hbox); have n3_ := Aside0.mk ((by rw [hg]; exact (below_size p1_0) : w.heap.size ≤ gb112)); have n4_ := Aside0.mk ((by rw [hg]; exact (below_size p1_0) : w.heap.size ≤ gb112)); have n5_ := Aside0.mk ((by rw [hg]; exact Nat.ne_of_lt (blk_lt (g := gb102) (o := .cells #[.int .i64 ((rd_T44 l0 a1).f0), .int .i64 ((rd_T44 l0 a1).f1), .int .i64 ((rd_T44 l0 a1).f2)] 44 (0, 0)) p1_1) : gb102 ≠ gb112)); have n6_ := Aside0.mk ((by rw [hg]; exact Nat.ne_of_gt (blk_lt (g := gb102) (o := .cells #[.int .i64 ((rd_T44 l0 a1).f0), .int .i64 ((rd_T44 l0 a1).f1), .int .i64 ((rd_T44 l0 a1).f2)] 44 (0, 0)) p1_1) : gb112 ≠ gb102)); clear BK102; clear HB; have BK102 := n0_; have HB := n1_; have BK112 := n2_; have GW112 := n3_; have GE112 := n4_; have NB102_112 := n5_; have NB112_102 := n6_; clear n0_ n1_ n2_ n3_ n4_ n5_ n6_; clear hb hbox hg; have hnb37 := NB112_102.out; have hnc37 := NB102_112.out; have hcz38_0 : w36.cell? ⟨gb112, 0, none⟩ = some (.int .i64 0) := (blk_cell BK112.out 0).trans rfl; have hcz38_1 : w36.cell? ⟨gb112, 1, none⟩ = some (.int .i64 0) := (blk_cell BK112.out 1).trans rfl; have hcz38_2 : w36.cell? ⟨gb112, 2, none⟩ = some (.int .i64 0) := (blk_cell BK112.out 2).trans rfl; have hfz38_0 := blk_frozen BK112.out 0; have hfz38_1 := blk_frozen BK112.out 1; have hfz38_2 := blk_frozen BK112.out 2))
                       go_roundg k4
                       case measure => have := HJ2.out; have := HJ7.out; have := HJ21.out; have := HK4.out; omega
                       case rel => exact ⟨(x6_4), (wrap64 (x58_4 + 1)), p1_3, p1_3, H', ⟨by have := HJ2.out; have := HJ7.out; have := HJ21.out; have := HK4.out; omega⟩, ⟨by (with_reducible repeat (first | refine blk_drewN ?_ _ | refine blk_drew ?_ | refine blk_alloc ?_ _)); refine blk_far ?_ NB102_112.out _; (with_reducible repeat (first | refine blk_drewN ?_ _ | refine blk_drew ?_ | refine blk_alloc ?_ _)); refine blk_far ?_ NB102_112.out _; (with_reducible repeat (first | refine blk_drewN ?_ _ | refine blk_drew ?_ | refine blk_alloc ?_ _)); refine blk_far ?_ NB102_112.out _; (with_reducible repeat (first | refine blk_drewN ?_ _ | refine blk_drew ?_ | refine blk_alloc ?_ _)); exact BK102.out⟩, ⟨by repeat (first | (with_reducible first | exact HB.out | apply below_alloc | apply pw_below_drewN | apply below_drew1 | refine below_set ?_ GE102.out | refine below_set ?_ GE112.out) | exact HB.out)⟩⟩
                      ·
                       rw [if_neg c35] at H
                       have c35b0 : (((rd_T44 y107 x58_4).f0) == 30) = false := beq_eq_false_iff_ne.mpr c35
                       have c35b1 : (((rd_T44 y107 x58_4).f0) != 30) = true := bne_iff_ne.mpr c35
                       obtain rfl := Option.some.inj H
                       have p111 : 0 ≤ (x58_4 : Int) := of_decide_eq_true p1_4
                       have q111 : x58_4 < (y107.length : Int) := of_decide_eq_true p1_4
                       obtain ⟨ad111, e111, hx111_0, hx111_1, hx111_2⟩ := at_T44 HR110.out x58_4 p111 q111
                       cases e111
                       replace hx111_0 := (HB.out.cell (World.block_lt_of_cell? w _ hx111_0)).trans hx111_0
                       replace hx111_1 := (HB.out.cell (World.block_lt_of_cell? w _ hx111_1)).trans hx111_1
                       replace hx111_2 := (HB.out.cell (World.block_lt_of_cell? w _ hx111_2)).trans hx111_2
                       replace p111 := eq_true p111
                       replace q111 := eq_true q111
                       go_wp2_with (first | go_step3 | ((with_reducible refine gate_dst (N := 9) rfl ?_); (try (refine gate_guard (by rfl) ?_; dsimp only)); refine box_event ?hg (N := 9) ?hd (cs := #[.int .i64 0, .int .i64 0, .int .i64 0]) (t := 44) ?hr ?_; (case hd => rfl); (case hg => rfl); (case hr => first | (go_simp; done) | (go_simp; rfl)); intro gb112 hg w39 hbox hb; have n0_ := Aside0.mk (blk_below (g := gb102) (o := .cells #[.int .i64 ((rd_T44 l0 a1).f0), .int .i64 ((rd_T44 l0 a1).f1), .int .i64 ((rd_T44 l0 a1).f2)] 44 (0, 0)) p1_1 hb); have n1_ := Aside0.mk (below_step p1_0 hb); have n2_ := Aside0.mk (hbox); have n3_ := Aside0.mk ((by rw [hg]; exact (below_size p1_0) : w.heap.size ≤ gb112)); have n4_ := Aside0.mk ((by rw [hg]; exact (below_size p1_0) : w.heap.size ≤ gb112)); have n5_ := Aside0.mk ((by rw [hg]; exact Nat.ne_of_lt (blk_lt (g := gb102) (o := .cells #[.int .i64 ((rd_T44 l0 a1).f0), .int .i64 ((rd_T44 l0 a1).f1), .int .i64 ((rd_T44 l0 a1).f2)] 44 (0, 0)) p1_1) : gb102 ≠ gb112)); have n6_ := Aside0.mk ((by rw [hg]; exact Nat.ne_of_gt (blk_lt (g := gb102) (o := .cells #[.int .i64 ((rd_T44 l0 a1).f0), .int .i64 ((rd_T44 l0 a1).f1), .int .i64 ((rd_T44 l0 a1).f2)] 44 (0, 0)) p1_1) : gb112 ≠ gb102)); clear BK102; clear HB; have BK102 := n0_; have HB := n1_; have BK112 := n2_; have GW112 := n3_; have GE112 := n4_; have NB102_112 := n5_; have NB112_102 := n6_; clear n0_ n1_ n2_ n3_ n4_ n5_ n6_; clear hb hbox hg; have hnb40 := NB112_102.out; have hnc40 := NB102_112.out; have hcz41_0 : w39.cell? ⟨gb112, 0, none⟩ = some (.int .i64 0) := (blk_cell BK112.out 0).trans rfl; have hcz41_1 : w39.cell? ⟨gb112, 1, none⟩ = some (.int .i64 0) := (blk_cell BK112.out 1).trans rfl; have hcz41_2 : w39.cell? ⟨gb112, 2, none⟩ = some (.int .i64 0) := (blk_cell BK112.out 2).trans rfl; have hfz41_0 := blk_frozen BK112.out 0; have hfz41_1 := blk_frozen BK112.out 1; have hfz41_2 := blk_frozen BK112.out 2))
                       (try simp only [Go.Exit.noGoto_ret])
                       go_ret
                       exact ⟨by first | rfl | (simp [errW_none, errW_some] <;> rfl) | (simp only [← hji19]; first | rfl | (simp [errW_none, errW_some] <;> rfl)) | (simp [*, errW_none, errW_some] <;> rfl), by repeat (first | (with_reducible first | exact HB.out | apply below_alloc | apply pw_below_drewN | apply below_drew1 | refine below_set ?_ GE102.out | refine below_set ?_ GE112.out) | exact HB.out)⟩
                     ·
                      rw [if_neg c34] at H
                      exact absurd H (by simp)
                    ·
                     rw [if_neg c33] at H
                     exact absurd H (by simp)
                   ·
                    rw [if_neg c32] at H
                    have c32b0 : decide (x58_4 < (y107.length : Int)) = false := decide_eq_false c32
                    clear c32
                    by_cases c42 : x6_4 = true
                    ·
                     subst c42
                     have H1 : (some 0) = some r := by rw [if_pos rfl] at H; exact H
                     clear H
                     have H := H1
                     clear H1
                     obtain rfl := Option.some.inj H
                     go_wp2_with (go_step3)
                     (try simp only [Go.Exit.noGoto_ret])
                     go_ret
                     exact ⟨by first | rfl | (simp [errW_none, errW_some] <;> rfl) | (simp only [← hji19]; first | rfl | (simp [errW_none, errW_some] <;> rfl)) | (simp [*, errW_none, errW_some] <;> rfl), by repeat (first | (with_reducible first | exact HB.out | apply below_alloc | apply pw_below_drewN | apply below_drew1 | refine below_set ?_ GE102.out) | exact HB.out)⟩
                    ·
                     replace c42 := Bool.eq_false_iff.mpr c42
                     subst c42
                     have H1 : (some 11) = some r := by rw [if_neg (show ¬ (false = true) by decide)] at H; exact H
                     clear H
                     have H := H1
                     clear H1
                     obtain rfl := Option.some.inj H
                     go_wp2_with (go_step3)
                     (try simp only [Go.Exit.noGoto_ret])
                     go_ret
                     exact ⟨by first | rfl | (simp [errW_none, errW_some] <;> rfl) | (simp only [← hji19]; first | rfl | (simp [errW_none, errW_some] <;> rfl)) | (simp [*, errW_none, errW_some] <;> rfl), by repeat (first | (with_reducible first | exact HB.out | apply below_alloc | apply pw_below_drewN | apply below_drew1 | refine below_set ?_ GE102.out) | exact HB.out)⟩
                ·
                 rw [if_neg c29] at H
                 exact absurd H (by simp)
               ·
                rw [if_neg c28] at H
                exact absurd H (by simp)
           ·
            rw [if_neg c21] at H
            exact absurd H (by simp)
          ·
           rw [if_neg c20] at H
           exact absurd H (by simp)
         ·
          rw [if_neg c18] at H
          have c18b0 : (((rd_T44 l0 a1).f0) == 32) = false := beq_eq_false_iff_ne.mpr c18
          have c18b1 : (((rd_T44 l0 a1).f0) != 32) = true := bne_iff_ne.mpr c18
          by_cases c43 : true = true
          ·
           clear c43
           have H1 : (some 0) = some r := by rw [if_pos rfl] at H; exact H
           clear H
           have H := H1
           clear H1
           obtain rfl := Option.some.inj H
           go_wp2_with (go_step3)
           (try simp only [Go.Exit.noGoto_ret])
           go_ret
           exact ⟨by first | rfl | (simp [errW_none, errW_some] <;> rfl) | (simp [*, errW_none, errW_some] <;> rfl), by repeat (first | (with_reducible first | exact HB.out | apply below_alloc | apply pw_below_drewN | apply below_drew1 | refine below_set ?_ GE102.out) | exact HB.out)⟩
          ·
           exact absurd rfl c43
     ·
      rw [if_neg c7] at H
      exact absurd H (by simp)
    ·
     rw [if_neg c6] at H
     exact absurd H (by simp)

/-! ### flow_jumps: function 56 -/
def flow_jumps.l0 : Nat → List (S44) → Int → Int → Option (Bool)
 | 0, _, _, _ => none
 | k + 1, x0, x5, x6 => if x6 < x5 then ((refs_Jump.f k x0 x6).bind fun t113 => (if t113 = 0 then (flow_jumps.l0 k x0 x5 (wrap64 (x6 + 1))) else (some false))) else (some true)
def flow_jumps.f (k : Nat) (l0 : List (S44)) : Option (Bool) := flow_jumps.l0 k l0 (l0.length : Int) 0
theorem flow_jumps.mono_l : ∀ k, (∀ y0 y1 y2, LeO (flow_jumps.l0 k y0 y1 y2) (flow_jumps.l0 (k + 1) y0 y1 y2))
 | 0 => fun _ _ _ r h => by simp [flow_jumps.l0] at h
 | k + 1 => by
  have ih0 := flow_jumps.mono_l k
  ·
   intro y0 y1 y2
   unfold flow_jumps.l0
   repeat' first
   | (with_reducible exact ih0 _ _ _)
   | (with_reducible exact refs_Jump.mono _ _ _)
   | (with_reducible exact LeO.refl _)
   | (with_reducible exact LeO.none _)
   | (with_reducible refine LeO.ite ?_ ?_)
   | (with_reducible refine LeO.bind ?_ (fun _ => ?_))
   | exact ih0 _ _ _
   | exact refs_Jump.mono _ _ _
   | exact LeO.none _
   | refine LeO.ite ?_ ?_
   | refine LeO.bind ?_ (fun _ => ?_)
theorem flow_jumps.mono : ∀ a0 k, LeO (flow_jumps.f k a0) (flow_jumps.f (k + 1) a0) := by
 intro a0 k
 have ih0 := flow_jumps.mono_l k
 unfold flow_jumps.f
 repeat' first
   | (with_reducible exact ih0 _ _ _)
   | (with_reducible exact refs_Jump.mono _ _ _)
   | (with_reducible exact LeO.refl _)
   | (with_reducible exact LeO.none _)
   | (with_reducible refine LeO.ite ?_ ?_)
   | (with_reducible refine LeO.bind ?_ (fun _ => ?_))
   | exact ih0 _ _ _
   | exact refs_Jump.mono _ _ _
   | exact LeO.none _
   | refine LeO.ite ?_ ?_
   | refine LeO.bind ?_ (fun _ => ?_)
set_option maxHeartbeats 8000000 in
set_option maxRecDepth 100000 in
theorem flow_jumps.calls (k : Nat) (A0 : Option Addr) (c0 : Nat) (l0 : List (S44)) (r : Bool) (w : World) (hr0 : Kd.C k44 w A0 l0.length l0) (hc0 : l0.length ≤ c0) (h : flow_jumps.f k l0 = some r) :
  Calls Try.prog 56 #[.slice A0 l0.length c0] w fun e w' => e = .returned (.bool r) ∧ Below w.heap.size w w' := by
 have HR0 := Aside0.mk hr0
 have HC0 := Aside0.mk hc0
 clear hr0 hc0
 have HB := Aside0.mk (Below.refl w.heap.size w)
 have H : (flow_jumps.l0 k l0 (l0.length : Int) 0) = some r := h
 clear h
 have H' := Aside0.mk H
 clear H
 go_enter Try.func56, Try.ntmps56
 go_wp2
 go_loopg [6] k (fun kq v6 w' => ∃ (x6_1 : Int), v6 = .int .i64 x6_1 ∧ Aside0 (flow_jumps.l0 kq l0 (l0.length : Int) x6_1 = some r) ∧ Aside0 (kq ≤ k) ∧ Aside0 (Below w.heap.size w w'))
 case atStart => exact ⟨(0), p1_3, H', ⟨Nat.le_refl _⟩, ⟨by repeat (first | (with_reducible first | exact HB.out | apply below_alloc | apply pw_below_drewN | apply below_drew1) | exact HB.out)⟩⟩
 case round =>
  clear H'
  obtain ⟨x6_1, rfl, HA, HK1, HB⟩ := hrel
  cases gk with
  | zero => exact absurd HA.out (by simp [flow_jumps.l0])
  | succ k1 =>
   have H := HA.out
   clear HA
   simp only [flow_jumps.l0] at H
   by_cases c2 : x6_1 < (l0.length : Int)
   ·
    rw [if_pos c2] at H
    have c2b0 : decide (x6_1 < (l0.length : Int)) = true := decide_eq_true c2
    clear c2
    replace H := Option.bind_eq_some_iff.mp H
    obtain ⟨t113, A30, H⟩ := H
    replace H : (if t113 = 0 then (flow_jumps.l0 k1 l0 (l0.length : Int) (wrap64 (x6_1 + 1))) else (some false)) = some r := H
    have A3 := Aside0.mk A30
    clear A30
    by_cases c4 : t113 = 0
    ·
     rw [if_pos c4] at H
     have c4b0 : (t113 == 0) = true := beq_iff_eq.mpr c4
     have c4b1 : (t113 != 0) = false := bne_eq_false_iff_eq.mpr c4
     clear c4
     have H' := Aside0.mk H
     clear H
     go_wp2_with (first | ((with_reducible refine gate_callee (f := 76) rfl ?_); refine goesL_ (some 11) rfl rfl Try.func76 (by kernel_rfl) rfl #[.slice A0 l0.length c0, .int .i64 x6_1] rfl p1_5 ?_; (with_reducible refine (refs_Jump.calls k1 _ _ l0 x6_1 t113 _ ?side1 ?side2 A3.out).mono ?_); (case side1 => repeat (first | exact (Kd.C_below HR0.out HB.out) | (with_reducible refine Kd.C_alloc ?_ _) | (with_reducible refine Kd.C_drewN ?_ _) | (with_reducible refine Kd.C_drew ?_))); (case side2 => exact HC0.out); rintro e w5 ⟨rfl, hb⟩; refine ⟨_, rfl, ?_⟩; have n0_ := Aside0.mk (below_step p1_2 hb); clear HB; have HB := n0_; clear n0_; (try clear hb); (try clear hb2); (try clear hk); (try clear hi)))
     go_roundg k1
     case measure => have := HK1.out; omega
     case rel => exact ⟨(wrap64 (x6_1 + 1)), p1_3, H', ⟨by have := HK1.out; omega⟩, ⟨by repeat (first | (with_reducible first | exact HB.out | apply below_alloc | apply pw_below_drewN | apply below_drew1) | exact HB.out)⟩⟩
    ·
     rw [if_neg c4] at H
     have c4b0 : (t113 == 0) = false := beq_eq_false_iff_ne.mpr c4
     have c4b1 : (t113 != 0) = true := bne_iff_ne.mpr c4
     obtain rfl := Option.some.inj H
     go_wp2_with (first | ((with_reducible refine gate_callee (f := 76) rfl ?_); refine goesL_ (some 11) rfl rfl Try.func76 (by kernel_rfl) rfl #[.slice A0 l0.length c0, .int .i64 x6_1] rfl p1_5 ?_; (with_reducible refine (refs_Jump.calls k1 _ _ l0 x6_1 t113 _ ?side1 ?side2 A3.out).mono ?_); (case side1 => repeat (first | exact (Kd.C_below HR0.out HB.out) | (with_reducible refine Kd.C_alloc ?_ _) | (with_reducible refine Kd.C_drewN ?_ _) | (with_reducible refine Kd.C_drew ?_))); (case side2 => exact HC0.out); rintro e w6 ⟨rfl, hb⟩; refine ⟨_, rfl, ?_⟩; have n0_ := Aside0.mk (below_step p1_2 hb); clear HB; have HB := n0_; clear n0_; (try clear hb); (try clear hb2); (try clear hk); (try clear hi)))
     go_ret
     exact ⟨by first | rfl | (simp [errW_none, errW_some] <;> rfl) | (simp [*, errW_none, errW_some] <;> rfl), by repeat (first | (with_reducible first | exact HB.out | apply below_alloc | apply pw_below_drewN | apply below_drew1) | exact HB.out)⟩
   ·
    rw [if_neg c2] at H
    have c2b0 : decide (x6_1 < (l0.length : Int)) = false := decide_eq_false c2
    clear c2
    obtain rfl := Option.some.inj H
    go_wp2
    go_ret
    exact ⟨by first | rfl | (simp [errW_none, errW_some] <;> rfl) | (simp [*, errW_none, errW_some] <;> rfl), by repeat (first | (with_reducible first | exact HB.out | apply below_alloc | apply pw_below_drewN | apply below_drew1) | exact HB.out)⟩

end Go.Proofs.Ytfiffhcpgojkhaa.QFlowBlocks
