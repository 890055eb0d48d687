-- Printed by a program of this session's over the kit's printer (wip/patch_print.py).
import Derived.Test.YtfiffhcpgojkhaaQFlowBlocksx0
namespace Go.Proofs.Ytfiffhcpgojkhaa.QFlowBlocks
open Go.RowKit Go.Proofs.Ytfiffhcpgojkhaa Go.Proofs.YtfiffhcpgojkhaaW.PrintWords Go.Proofs.YtfiffhcpgojkhaaW.PrintLast Go.Proofs.YtfiffhcpgojkhaaW.PrintMore
attribute [local go_sem] setCell_drewN0 max2_int min2_int max_two min_two max_three min_three max_four min_four   -- for this text's walks alone
set_option linter.unusedVariables false
set_option linter.unusedSimpArgs false

/-! ### flow_Next: function 27 -/
theorem p10_0 {P : Prop} (h : P := by first | (with_reducible assumption) | assumption) : P := h
theorem p10_1 {P : Prop} (h : P := by repeat (first | (with_reducible first | exact HB.out | apply below_alloc | apply pw_below_drewN | apply below_drew1) | exact HB.out)) : P := h
theorem p10_2 {P : Prop} (h : P := by repeat (first | (with_reducible first | exact HB.out | apply below_alloc | apply pw_below_drewN | apply below_drew1 | refine below_set ?_ GE301.out) | exact HB.out)) : P := h
theorem p10_3 {P : Prop} (h : P := by first | rfl | (simp; done) | (simp [*]; done)) : P := h
theorem p10_4 {P : Prop} (h : P := by (with_reducible repeat (first | apply Kd.R_alloc | apply Kd.R_drewN | apply Kd.R_drew)); exact Kd.R_mono UU20.out (fun _ hk => .inl hk)) : P := h
theorem p10_5 {P : Prop} (h : P := by (with_reducible repeat (first | apply Kd.R_alloc | apply Kd.R_drewN | apply Kd.R_drew)); exact Kd.R_mono UU33.out (fun _ hk => .inl hk)) : P := h
theorem p10_6 {P : Prop} (h : P := by repeat (first | exact HH20.out | refine Kd.H_alloc ?_ _ | refine Kd.H_drewN ?_ _ | refine Kd.H_drew ?_)) : P := h
theorem p10_7 {P : Prop} (h : P := by repeat (first | exact HH33.out | refine Kd.H_alloc ?_ _ | refine Kd.H_drewN ?_ _ | refine Kd.H_drew ?_)) : P := h
theorem p10_8 {P : Prop} (h : P := by repeat (first | (with_reducible exact HR320_0.out) | (with_reducible refine Kd.C_alloc ?_ _) | (with_reducible refine Kd.C_drewN ?_ _) | (with_reducible refine Kd.C_drew ?_) | exact HR320_0.out)) : P := h
theorem p10_9 {P : Prop} (h : P := by first | exact q314 | exact of_decide_eq_true p10_0 | (have e_ := (Kd.S_reads' HO_3.out).1; omega)) : P := h
theorem p10_10 {P : Prop} (h : P := by (with_reducible repeat (first | refine blk_drewN ?_ _ | refine blk_drew ?_ | refine blk_alloc ?_ _)); exact BK301.out) : P := h
def flow_Next.l0 : Nat → List (List Int) → List (S39) → Int → Int → Option ((List (List Int)))
 | 0, _, _, _, _ => none
 | k + 1, x3, x9, x10, x11 => if x11 < x10 then (if 0 ≤ x11 then (if x11 < (x9.length : Int) then ((some (([] : List Int) : List Int)).bind fun y302 => (if y302.length + ((rd_T39 x9 x11).f2).length < 17592186044416 then (if x11 < (x3.length : Int) then (flow_Next.l0 k (x3.set (x11 : Int).toNat (y302 ++ ((rd_T39 x9 x11).f2))) x9 x10 (wrap64 (x11 + 1))) else (none)) else (none))) else (none)) else (none)) else (some x3)
def flow_Next.f (k : Nat) (l0 : List (S39)) : Option ((List (List Int))) := if 0 ≤ (l0.length : Int) then (if ((l0.length : Int) : Int).toNat ≤ 11728124029610 then (flow_Next.l0 k (List.replicate ((l0.length : Int) : Int).toNat []) l0 (l0.length : Int) 0) else (none)) else (none)
theorem flow_Next.mono_l : ∀ k, (∀ y0 y1 y2 y3, LeO (flow_Next.l0 k y0 y1 y2 y3) (flow_Next.l0 (k + 1) y0 y1 y2 y3))
 | 0 => fun _ _ _ _ r h => by simp [flow_Next.l0] at h
 | k + 1 => by
  have ih0 := flow_Next.mono_l k
  ·
   intro y0 y1 y2 y3
   unfold flow_Next.l0
   repeat' first
   | (with_reducible exact ih0 _ _ _ _)
   | (with_reducible exact LeO.refl _)
   | (with_reducible exact LeO.none _)
   | (with_reducible refine LeO.ite ?_ ?_)
   | (with_reducible refine LeO.bind ?_ (fun _ => ?_))
   | exact ih0 _ _ _ _
   | exact LeO.none _
   | refine LeO.ite ?_ ?_
   | refine LeO.bind ?_ (fun _ => ?_)
theorem flow_Next.mono : ∀ a0 k, LeO (flow_Next.f k a0) (flow_Next.f (k + 1) a0) := by
 intro a0 k
 have ih0 := flow_Next.mono_l k
 unfold flow_Next.f
 repeat' first
   | (with_reducible exact ih0 _ _ _ _)
   | (with_reducible exact LeO.refl _)
   | (with_reducible exact LeO.none _)
   | (with_reducible refine LeO.ite ?_ ?_)
   | (with_reducible refine LeO.bind ?_ (fun _ => ?_))
   | exact ih0 _ _ _ _
   | exact LeO.none _
   | refine LeO.ite ?_ ?_
   | refine LeO.bind ?_ (fun _ => ?_)
set_option maxHeartbeats 8000000 in
set_option maxRecDepth 100000 in
theorem flow_Next.calls (k : Nat) (A0 : Option Addr) (c0 : Nat) (l0 : List (S39)) (r : List (List Int)) (w : World) (hr0 : Kd.C k39 w A0 l0.length l0) (hc0 : l0.length ≤ c0) (h : flow_Next.f k l0 = some r) :
  Calls Try.prog 27 #[.slice A0 l0.length c0] w fun e w' => ∃ v0_ : Value, e = .returned (v0_) ∧ Kd.S (Kd.slice 3 (Kd.int .i64)) 27 w' w.heap.size (fun _ => True) v0_ r ∧ Below w.heap.size w w' := by
 have hu39 := Try.underlying39
 have HR0 := Aside0.mk hr0
 have HC0 := Aside0.mk hc0
 clear hr0 hc0
 have HB := Aside0.mk (Below.refl w.heap.size w)
 have H : (if 0 ≤ (l0.length : Int) then (if ((l0.length : Int) : Int).toNat ≤ 11728124029610 then (flow_Next.l0 k (List.replicate ((l0.length : Int) : Int).toNat []) l0 (l0.length : Int) 0) else (none)) else (none)) = some r := h
 clear h
 by_cases c2 : 0 ≤ (l0.length : Int)
 ·
  rw [if_pos c2] at H
  have c2b0 := eq_true c2
  have c2b1 : decide (0 ≤ (l0.length : Int)) = true := decide_eq_true c2
  clear c2
  by_cases c3 : ((l0.length : Int) : Int).toNat ≤ 11728124029610
  ·
   rw [if_pos c3] at H
   have c3b0 := eq_true c3
   have c3b1 : decide (((l0.length : Int) : Int).toNat ≤ 11728124029610) = true := decide_eq_true c3
   clear c3
   obtain ⟨y297, hy297⟩ : ∃ y_ : List (List Int), y_ = (List.replicate ((l0.length : Int) : Int).toNat []) := ⟨_, rfl⟩
   replace H : (flow_Next.l0 k y297 l0 (l0.length : Int) 0) = some r := by first | (rw [hy297]; with_reducible exact H) | (have H2_ := (Option.bind_some _ _).symm.trans H; rw [hy297]; with_reducible exact H2_) | (have H2_ := (Option.bind_some _ _).symm.trans H; with_reducible exact H2_) | with_reducible exact H | (rw [hy297]; exact H) | exact H
   have Ny297 := Aside0.mk hy297
   clear hy297
   have H' := Aside0.mk H
   clear H
   go_enter Try.func27, Try.ntmps27
   go_wp2_with (first | ((with_reducible refine gate_dst (N := 8) rfl ?_); refine Kd.S_make (Kd.slice 3 (Kd.int .i64)) _ 27 rfl (N := 8) rfl 22 _ _ rfl (l0.length : Int) rfl rfl Try.underlying22 (.slice none 0 0) 24 info27 rfl (by decide) (by omega) [] (ok := fun _ => True) (okp := fun _ => True) ⟨_, rfl, Kd.R_nil _ _ _ _ _⟩ (fun _ hk => hk) trivial (of_decide_eq_true p10_0) (Nat.le_trans (Nat.mul_le_mul_right _ (of_decide_eq_true p10_0 : (l0.length : Int).toNat ≤ 11728124029610)) (by omega)) (Below.refl _ _) (Nat.le_refl _) ?_; intro v298 w4 ho5 hb hg_ hnew_; clear hg_ hnew_; (first | rw [← Ny297.out] at ho5 | (simp only [Int.reduceToNat] at ho5; rw [← Ny297.out] at ho5)); have n0_ := Aside0.mk (Kd.S_lower ho5 (below_size p10_1)); have n1_ := Aside0.mk (below_step p10_1 hb); clear HB; have HO299 := n0_; have HB := n1_; clear n0_ n1_; clear hb ho5))
   go_loopg [11] k (fun kq v11 w' => ∃ (x3_1 : List (List Int)) (x11_1 : Int), v11 = .int .i64 x11_1 ∧ Aside0 (flow_Next.l0 kq x3_1 l0 (l0.length : Int) x11_1 = some r) ∧ Aside0 (kq ≤ k) ∧ Aside0 (Kd.S (Kd.slice 3 (Kd.int .i64)) 27 w' w.heap.size (fun _ => True) v298 x3_1) ∧ Aside0 (Below w.heap.size w w'))
   case atStart => exact ⟨(y297), (0), p10_3, H', ⟨Nat.le_refl _⟩, ⟨by (with_reducible repeat (first | apply Kd.S_alloc | apply Kd.S_drewN | apply Kd.S_drew)); exact HO299.out⟩, ⟨by repeat (first | (with_reducible first | exact HB.out | apply below_alloc | apply pw_below_drewN | apply below_drew1) | exact HB.out)⟩⟩
   case round =>
    clear H'
    (try clear c2); (try clear c2b0); (try clear c2b1); (try clear c3); (try clear c3b0); (try clear c3b1)
    obtain ⟨x3_1, x11_1, rfl, HA, HK1, HO_3, HB⟩ := hrel
    cases gk with
    | zero => exact absurd HA.out (by simp [flow_Next.l0])
    | succ k1 =>
     have H := HA.out
     clear HA
     simp only [flow_Next.l0] at H
     by_cases c6 : x11_1 < (l0.length : Int)
     ·
      rw [if_pos c6] at H
      have c6b0 : decide (x11_1 < (l0.length : Int)) = true := decide_eq_true c6
      clear c6
      by_cases c7 : 0 ≤ x11_1
      ·
       rw [if_pos c7] at H
       have c7b0 : decide (0 ≤ x11_1) = true := decide_eq_true c7
       clear c7
       by_cases c8 : x11_1 < (l0.length : Int)
       ·
        rw [if_pos c8] at H
        have c8b0 : decide (x11_1 < (l0.length : Int)) = true := decide_eq_true c8
        clear c8
        obtain ⟨y302, hy302⟩ : ∃ y_ : List Int, y_ = (([] : List Int)) := ⟨_, rfl⟩
        replace H : (if y302.length + ((rd_T39 l0 x11_1).f2).length < 17592186044416 then (if x11_1 < (x3_1.length : Int) then (flow_Next.l0 k1 (x3_1.set (x11_1 : Int).toNat (y302 ++ ((rd_T39 l0 x11_1).f2))) l0 (l0.length : Int) (wrap64 (x11_1 + 1))) else (none)) else (none)) = some r := by first | (rw [hy302]; with_reducible exact H) | (have H2_ := (Option.bind_some _ _).symm.trans H; rw [hy302]; with_reducible exact H2_) | (have H2_ := (Option.bind_some _ _).symm.trans H; with_reducible exact H2_) | with_reducible exact H | (rw [hy302]; exact H) | exact H
        have Ny302 := Aside0.mk hy302
        clear hy302
        by_cases c9 : y302.length + ((rd_T39 l0 x11_1).f2).length < 17592186044416
        ·
         rw [if_pos c9] at H
         have LMc9 := Aside0.mk c9
         clear c9
         obtain ⟨y305, hy305⟩ : ∃ y_ : List Int, y_ = (y302 ++ ((rd_T39 l0 x11_1).f2)) := ⟨_, rfl⟩
         replace H : (if x11_1 < (x3_1.length : Int) then (flow_Next.l0 k1 (x3_1.set (x11_1 : Int).toNat y305) l0 (l0.length : Int) (wrap64 (x11_1 + 1))) else (none)) = some r := by first | (rw [hy305]; with_reducible exact H) | (have H2_ := (Option.bind_some _ _).symm.trans H; rw [hy305]; with_reducible exact H2_) | (have H2_ := (Option.bind_some _ _).symm.trans H; with_reducible exact H2_) | with_reducible exact H | (rw [hy305]; exact H) | exact H
         have Ny305 := Aside0.mk hy305
         clear hy305
         by_cases c10 : x11_1 < (x3_1.length : Int)
         ·
          rw [if_pos c10] at H
          have c10b0 : decide (x11_1 < (x3_1.length : Int)) = true := decide_eq_true c10
          clear c10
          obtain ⟨y308, hy308⟩ : ∃ y_ : List (List Int), y_ = (x3_1.set (x11_1 : Int).toNat y305) := ⟨_, rfl⟩
          replace H : (flow_Next.l0 k1 y308 l0 (l0.length : Int) (wrap64 (x11_1 + 1))) = some r := by first | (rw [hy308]; with_reducible exact H) | (have H2_ := (Option.bind_some _ _).symm.trans H; rw [hy308]; with_reducible exact H2_) | (have H2_ := (Option.bind_some _ _).symm.trans H; with_reducible exact H2_) | with_reducible exact H | (rw [hy308]; exact H) | exact H
          have Ny308 := Aside0.mk hy308
          clear hy308
          have H' := Aside0.mk H
          clear H
          have p300 : 0 ≤ (x11_1 : Int) := of_decide_eq_true p10_0
          have q300 : x11_1 < (l0.length : Int) := of_decide_eq_true p10_0
          obtain ⟨ad300, A300_2, c300_2, e300, hx300_0, hx300_1, hx300_2, hl300_2, hi300_2⟩ := at_T39 HR0.out x11_1 p300 q300
          cases e300
          replace hx300_0 := (HB.out.cell (World.block_lt_of_cell? w _ hx300_0)).trans hx300_0
          replace hx300_1 := (HB.out.cell (World.block_lt_of_cell? w _ hx300_1)).trans hx300_1
          replace hx300_2 := (HB.out.cell (World.block_lt_of_cell? w _ hx300_2)).trans hx300_2
          have HR300_2 := Aside0.mk hi300_2
          have HC300_2 := Aside0.mk hl300_2
          clear hi300_2 hl300_2
          replace p300 := eq_true p300
          replace q300 := eq_true q300
          go_wp2_with (first | ((with_reducible refine gate_dst (N := 5) rfl ?_); refine box_event ?hg (N := 5) ?hd (cs := #[.int .i64 0, .int .i64 0, .slice none 0 0]) (t := 39) ?hr ?_; (case hd => rfl); (case hg => rfl); (case hr => first | (go_simp; done) | (go_simp; rfl)); intro gb301 hg w12 hbox hb; have n0_ := Aside0.mk (Kd.S_below (by (with_reducible repeat (first | apply Kd.S_alloc | apply Kd.S_drewN | apply Kd.S_drew)); exact HO_3.out) hb); have n1_ := Aside0.mk (below_step p10_1 hb); have n2_ := Aside0.mk (hbox); have n3_ := Aside0.mk ((by rw [hg]; exact (below_size p10_1) : w.heap.size ≤ gb301)); have n4_ := Aside0.mk ((by rw [hg]; exact (below_size p10_1) : w.heap.size ≤ gb301)); clear HO_3; clear HB; have HO_3 := n0_; have HB := n1_; have BK301 := n2_; have GW301 := n3_; have GE301 := n4_; clear n0_ n1_ n2_ n3_ n4_; clear hb hbox hg; have hcz13_0 : w12.cell? ⟨gb301, 0, none⟩ = some (.int .i64 0) := (blk_cell BK301.out 0).trans rfl; have hcz13_1 : w12.cell? ⟨gb301, 1, none⟩ = some (.int .i64 0) := (blk_cell BK301.out 1).trans rfl; have hcz13_2 : w12.cell? ⟨gb301, 2, none⟩ = some (.slice none 0 0) := (blk_cell BK301.out 2).trans rfl; have hfz13_0 := blk_frozen BK301.out 0; have hfz13_1 := blk_frozen BK301.out 1; have hfz13_2 := blk_frozen BK301.out 2) | ((with_reducible refine gate_dst (N := 18) rfl ?_); refine Kd.R_lit (Kd.int .i64) _ 3 ?hg (N := 18) ?hd (xs := ([] : List Int)) (inner := []) (ok := fun _ => True) (okp := fun _ => True) ?hr ?hp (fun _ hk => hk) trivial (Below.refl _ _) (Nat.le_refl _) (by simp) ?_; (case hd => rfl); (case hg => rfl); (case hr => first | (go_simp; done) | (go_simp; rfl)); (case hp => exact (Reps.none _ _)); intro v303 w14 ho15 hb hg_ hnew_; clear hg_ hnew_; (first | rw [← Ny302.out] at ho15 | (simp only [Int.reduceToNat] at ho15; rw [← Ny302.out] at ho15)); have n0_ := Aside0.mk (Kd.S_elder' (by (with_reducible repeat (first | apply Kd.S_alloc | apply Kd.S_drewN | apply Kd.S_drew)); exact (Kd.S_mono (Kd.S_far (p := ⟨gb301, 2, none⟩) (Kd.S_far (p := ⟨gb301, 1, none⟩) (Kd.S_far (p := ⟨gb301, 0, none⟩) (Kd.S_types HO_3.out BK301.out (by decide)) (fun _ hk => hk.2) (.int .i64 ((rd_T39 l0 x11_1).f0))) (fun _ hk => hk.2) (.int .i64 ((rd_T39 l0 x11_1).f1))) (fun _ hk => hk.2) (.slice A300_2 ((rd_T39 l0 x11_1).f2).length c300_2)) (fun _ h_ => h_.1))) (Kd.R_base ho15) hb); have n1_ := Aside0.mk (Kd.R_lower ho15 (below_size p10_2)); have n2_ := Aside0.mk (blk_below (g := gb301) (o := .cells #[.int .i64 ((rd_T39 l0 x11_1).f0), .int .i64 ((rd_T39 l0 x11_1).f1), .slice A300_2 ((rd_T39 l0 x11_1).f2).length c300_2] 39 (0, 0)) (by (with_reducible repeat (first | refine blk_drewN ?_ _ | refine blk_drew ?_ | refine blk_alloc ?_ _)); refine blk_put (cs := #[.int .i64 ((rd_T39 l0 x11_1).f0), .int .i64 ((rd_T39 l0 x11_1).f1), .slice none 0 0]) ?_ 2 _ rfl; (with_reducible repeat (first | refine blk_drewN ?_ _ | refine blk_drew ?_ | refine blk_alloc ?_ _)); refine blk_put (cs := #[.int .i64 ((rd_T39 l0 x11_1).f0), .int .i64 0, .slice none 0 0]) ?_ 1 _ rfl; (with_reducible repeat (first | refine blk_drewN ?_ _ | refine blk_drew ?_ | refine blk_alloc ?_ _)); refine blk_put (cs := #[.int .i64 0, .int .i64 0, .slice none 0 0]) ?_ 0 _ rfl; (with_reducible repeat (first | refine blk_drewN ?_ _ | refine blk_drew ?_ | refine blk_alloc ?_ _)); exact BK301.out) hb); have n3_ := Aside0.mk (below_step p10_2 hb); clear HO_3; clear BK301; clear HB; have HO_3 := n0_; have HO304 := n1_; have BK301 := n2_; have HB := n3_; clear n0_ n1_ n2_ n3_; clear hb ho15; have hcz16_0 : w14.cell? ⟨gb301, 0, none⟩ = some (.int .i64 ((rd_T39 l0 x11_1).f0)) := (blk_cell BK301.out 0).trans rfl; have hcz16_1 : w14.cell? ⟨gb301, 1, none⟩ = some (.int .i64 ((rd_T39 l0 x11_1).f1)) := (blk_cell BK301.out 1).trans rfl; have hcz16_2 : w14.cell? ⟨gb301, 2, none⟩ = some (.slice A300_2 ((rd_T39 l0 x11_1).f2).length c300_2) := (blk_cell BK301.out 2).trans rfl; have hfz16_0 := blk_frozen BK301.out 0; have hfz16_1 := blk_frozen BK301.out 1; have hfz16_2 := blk_frozen BK301.out 2) | ((with_reducible refine gate_builtin (b := .append) (xs := #[.tmp 18, .tmp 20]) rfl ?_); at_builtin; refine Kd.R_append_rows (Kd.int .i64) (w0 := w) w.heap.size rfl (.tmp 18) (.tmp 20) 27 3 (.int .i64 0) 8 rfl Try.underlying27 info3 rfl (by decide) (by omega) v303 y302 ((rd_T39 l0 x11_1).f2) _ _ _ (fun _ => True) (fun _ => False) rfl rfl ?aO ?aR (fun _ _ h => h) (fun _ h => h.elim) ?aF ?aB ?aS ?aL ?_; (case aR => repeat (first | exact (Kd.C_below HR300_2.out HB.out) | (with_reducible refine Kd.C_alloc ?_ _) | (with_reducible refine Kd.C_drewN ?_ _) | (with_reducible refine Kd.C_drew ?_))); (case aB => exact p10_2); (case aF => exact (fun _ _ => trivial)); (case aO => exact (by (with_reducible repeat (first | apply Kd.R_alloc | apply Kd.R_drewN | apply Kd.R_drew)); exact HO304.out)); (case aS => exact (below_size p10_2)); (case aL => have := LMc9.out; omega); intro v306 w17 ho hb hg hat; rw [← Ny305.out] at ho; have n0_ := Aside0.mk (Kd.S_after (ok := (fun _ => True)) (by (with_reducible repeat (first | apply Kd.S_alloc | apply Kd.S_drewN | apply Kd.S_drew)); exact HO_3.out) hg hat); have n1_ := Aside0.mk (blk_grown (g := gb301) (o := .cells #[.int .i64 ((rd_T39 l0 x11_1).f0), .int .i64 ((rd_T39 l0 x11_1).f1), .slice A300_2 ((rd_T39 l0 x11_1).f2).length c300_2] 39 (0, 0)) p10_10 hg (Kd.R_ne HO304.out BK301.out (by decide))); have n2_ := Aside0.mk (hb); have n3_ := Aside0.mk (ho); clear HO_3; clear BK301; clear HB; clear HO304; have HO_3 := n0_; have BK301 := n1_; have HB := n2_; have HO307 := n3_; clear n0_ n1_ n2_ n3_; clear ho hb hg hat; obtain ⟨Av306, cv306, ev306⟩ := Kd.R_slice HO307.out; subst ev306; have p11 : 0 ≤ (x11_1 : Int) := of_decide_eq_true p10_0; have q11 : (x11_1 : Int) < ((x3_1.length : Int) : Int) := of_decide_eq_true p10_0; obtain ⟨go11, co11, eo11, gb11, gl11, cl11, HG11⟩ := Kd.S_form HO_3.out (by omega); (first | cases eo11 | (injection eo11 with ea_ en_ ec_; (first | subst ea_ | (injection ea_ with ea_; subst ea_)); subst ec_; clear en_)); have GB11 := Aside0.mk gb11; have GG11 := Aside0.mk HG11; clear gb11 gl11 HG11; obtain ⟨_, ce11, hcl11, hM11, hcc11, hfr11, _, _⟩ := Kd.S_elem HO_3.out [] (x11_1 : Int) p11 q11; obtain ⟨ve11_0, rfl, ge11_0⟩ := hM11; have hx11_0 := hcc11 0 _ rfl; have hf11_0 := hfr11 0; (try simp only [show ((Kd.slice 3 (Kd.int .i64))).sz = 1 from rfl, Nat.mul_one, Nat.add_zero] at hx11_0); (try simp only [show ((Kd.slice 3 (Kd.int .i64))).sz = 1 from rfl, Nat.mul_one, Nat.add_zero] at hf11_0); (try clear hcl11); (try clear hcc11); (try clear hfr11); (try clear hM11); replace p11 := eq_true p11; replace q11 := eq_true q11; have n_ := Aside0.mk (Kd.S_mono (ok' := (fun k_ => some k_ ≠ ((.slice Av306 y305.length cv306) : Value).ownBlock)) HO_3.out (fun k_ hk => hk.2)); clear HO_3; have HO_3 := n_; clear n_; have HX18 := Aside0.mk (show Kd.S (Kd.slice 3 (Kd.int .i64)) 27 w17 w.heap.size (fun k_ => ((fun _ => True)) k_ ∧ ¬ ((fun k_ => some k_ = ((.slice Av306 y305.length cv306) : Value).ownBlock)) k_) (.slice (some ⟨go11, 0, none⟩) x3_1.length co11) x3_1 from (by (with_reducible repeat (first | apply Kd.S_alloc | apply Kd.S_drewN | apply Kd.S_drew)); exact Kd.S_mono HO_3.out (fun k_ hk => ⟨trivial, fun e_ => hk e_⟩))); obtain ⟨oki18, ce18, hcl18, hM18, hcc18, hfr18, hoki18, hH18⟩ := Kd.S_elem HX18.out [] (x11_1 : Int) (of_decide_eq_true p10_0) (by have h_ : (x11_1 : Int) < ((x3_1.length : Int) : Int) := of_decide_eq_true p10_0; first | exact h_ | (have e_ := (Kd.S_reads' HO_3.out).1; omega) | simpa using h_); obtain ⟨ve18_0, rfl, ge18_0⟩ := hM18; have HP18 := Kd.S_seg hH18 (of_decide_eq_true p10_0) (by have h_ : (x11_1 : Int) < ((x3_1.length : Int) : Int) := of_decide_eq_true p10_0; first | exact h_ | (have e_ := (Kd.S_reads' HO_3.out).1; omega) | simpa using h_) (seg := [(.slice Av306 y305.length cv306)]) (j := 0) (show 1 ≤ 1 from by decide) (x' := y305) (Kd.M_row (Kd.R_mono (Kd.R_tight rfl (Kd.R_mono (ok' := fun k_ => ((fun _ => True)) k_ ∧ k_ ≠ go11) (Kd.R_apart' (HO307.out) (Kd.S_typed HO_3.out) (by decide)) (fun k_ hk => ⟨trivial, fun e_ => (hk.2) (by rw [e_]; rfl)⟩))) (fun _ h_ => Or.inr (h_)))) (fun _ hk => hk) (fun k_ hk_ => ((Kd.R_mono (ok' := fun k_ => ((fun _ => True)) k_ ∧ k_ ≠ go11) (Kd.R_apart' (HO307.out) (Kd.S_typed HO_3.out) (by decide)) (fun k_ hk => ⟨trivial, fun e_ => (hk.2) (by rw [e_]; rfl)⟩))).1 k_ hk_.symm); have hx18_0 := hcc18 0 _ rfl; (try simp only [show ((Kd.slice 3 (Kd.int .i64))).sz = 1 from rfl, Nat.mul_one, Nat.add_zero] at hx18_0); have hf18_0 := hfr18 0; (try simp only [show ((Kd.slice 3 (Kd.int .i64))).sz = 1 from rfl, Nat.mul_one, Nat.add_zero] at hf18_0); (try clear hcl18); (try clear hcc18); (try clear hfr18); (try clear hM18); (try clear hoki18); (try clear hH18); (try simp only [show ((Kd.slice 3 (Kd.int .i64))).sz = 1 from rfl, Nat.mul_one, Nat.add_zero] at HP18)) | ((with_reducible refine gate_store (t := 27) (p := 22) rfl ?_); refine store_event (t := 27) (p := 22) (v := ?vo_w19) (w1 := (w17.setCell ⟨go11, (x11_1 : Int).toNat, none⟩ (.slice Av306 y305.length cv306))) ?hg ?ho ?hn ?hr ?_; (case ho => rfl); (case hg => rfl); (case hn => rfl); (case hr => first | (go_simp; done) | (go_simp; rfl)); intro w19 hw; have hg : w17.grownBy w19 (some go11) := (by rw [hw]; exact HP18.2); have hp_ : Kd.S (Kd.slice 3 (Kd.int .i64)) 27 w19 w.heap.size (fun _ => True) (.slice (some ⟨go11, 0, none⟩) x3_1.length co11) y308 := (by rw [hw, Ny308.out]; exact HP18.1); clear HP18; have n0_ := Aside0.mk (hp_); have n1_ := Aside0.mk (blk_grown (g := gb301) (o := .cells #[.int .i64 ((rd_T39 l0 x11_1).f0), .int .i64 ((rd_T39 l0 x11_1).f1), .slice A300_2 ((rd_T39 l0 x11_1).f2).length c300_2] 39 (0, 0)) p10_10 hg (Kd.S_ne HO_3.out BK301.out (by decide))); have n2_ := Aside0.mk ((by rw [hw]; exact below_set (HB.out) GB11.out : Below w.heap.size w w19)); clear HO_3; clear BK301; clear HB; clear HO307; have HO_3 := n0_; have BK301 := n1_; have HB := n2_; clear n0_ n1_ n2_; clear hg hw hp_))
          go_roundg k1
          case measure => have := HK1.out; omega
          case rel => exact ⟨(y308), (wrap64 (x11_1 + 1)), p10_3, H', ⟨by have := HK1.out; omega⟩, ⟨by (with_reducible repeat (first | apply Kd.S_alloc | apply Kd.S_drewN | apply Kd.S_drew)); exact HO_3.out⟩, ⟨by repeat (first | (with_reducible first | exact HB.out | apply below_alloc | apply pw_below_drewN | apply below_drew1 | refine below_set ?_ GE301.out) | exact HB.out)⟩⟩
         ·
          rw [if_neg c10] at H
          exact absurd H (by simp)
        ·
         rw [if_neg c9] at H
         exact absurd H (by simp)
       ·
        rw [if_neg c8] at H
        exact absurd H (by simp)
      ·
       rw [if_neg c7] at H
       exact absurd H (by simp)
     ·
      rw [if_neg c6] at H
      have c6b0 : decide (x11_1 < (l0.length : Int)) = false := decide_eq_false c6
      clear c6
      obtain rfl := Option.some.inj H
      go_wp2
      go_ret
      exact ⟨_, by first | rfl | (simp [errW_none, errW_some] <;> rfl) | (simp [*, errW_none, errW_some] <;> rfl), by (with_reducible repeat (first | apply Kd.S_alloc | apply Kd.S_drewN | apply Kd.S_drew)); exact HO_3.out, by repeat (first | (with_reducible first | exact HB.out | apply below_alloc | apply pw_below_drewN | apply below_drew1) | exact HB.out)⟩
  ·
   rw [if_neg c3] at H
   exact absurd H (by simp)
 ·
  rw [if_neg c2] at H
  exact absurd H (by simp)

/-! ### flow_Preds: function 28 -/
mutual
def flow_Preds.l0 : Nat → List (List Int) → List (List Int) → List (List Int) → Int → Int → Option ((List (List Int)))
 | 0, _, _, _, _, _ => none
 | k + 1, x0, x3, x11, x12, x13 => if x13 < x12 then (if 0 ≤ x13 then (if x13 < (x11.length : Int) then (flow_Preds.l1 k x0 x3 x13 x11 x12 x13 (rd_L3 x11 x13) ((rd_L3 x11 x13).length : Int) 0) else (none)) else (none)) else (some x3)
def flow_Preds.l1 : Nat → List (List Int) → List (List Int) → Int → List (List Int) → Int → Int → List Int → Int → Int → Option ((List (List Int)))
 | 0, _, _, _, _, _, _, _, _, _ => none
 | k + 1, x0, x3, x4, x11, x12, x13, x18, x19, x20 => if x20 < x19 then (if 0 ≤ x20 then (if x20 < (x18.length : Int) then (if (rd x18 x20) ≥ 0 then (if (rd x18 x20) < (x0.length : Int) then (if 0 ≤ (rd x18 x20) then (if (rd x18 x20) < (x3.length : Int) then (if ((rd_L3 x3 (rd x18 x20)).length : Int) = 0 then (if (rd_L3 x3 (rd x18 x20)).length < 17592186044416 then (flow_Preds.l1 k x0 (x3.set ((rd x18 x20) : Int).toNat ((rd_L3 x3 (rd x18 x20)) ++ [x4])) x4 x11 x12 x13 x18 x19 (wrap64 (x20 + 1))) else (none)) else (if 0 ≤ (wrap64 (((rd_L3 x3 (rd x18 x20)).length : Int) - 1)) then (if (wrap64 (((rd_L3 x3 (rd x18 x20)).length : Int) - 1)) < ((rd_L3 x3 (rd x18 x20)).length : Int) then (if (rd (rd_L3 x3 (rd x18 x20)) (wrap64 (((rd_L3 x3 (rd x18 x20)).length : Int) - 1))) = x4 then (flow_Preds.l1 k x0 x3 x4 x11 x12 x13 x18 x19 (wrap64 (x20 + 1))) else (if (rd_L3 x3 (rd x18 x20)).length < 17592186044416 then (flow_Preds.l1 k x0 (x3.set ((rd x18 x20) : Int).toNat ((rd_L3 x3 (rd x18 x20)) ++ [x4])) x4 x11 x12 x13 x18 x19 (wrap64 (x20 + 1))) else (none))) else (none)) else (none))) else (none)) else (none)) else (flow_Preds.l1 k x0 x3 x4 x11 x12 x13 x18 x19 (wrap64 (x20 + 1)))) else (flow_Preds.l1 k x0 x3 x4 x11 x12 x13 x18 x19 (wrap64 (x20 + 1)))) else (none)) else (none)) else (flow_Preds.l0 k x0 x3 x11 x12 (wrap64 (x13 + 1)))
end
def flow_Preds.f (k : Nat) (l0 : List (List Int)) : Option ((List (List Int))) := if 0 ≤ (l0.length : Int) then (if ((l0.length : Int) : Int).toNat ≤ 11728124029610 then (flow_Preds.l0 k l0 (List.replicate ((l0.length : Int) : Int).toNat []) l0 (l0.length : Int) 0) else (none)) else (none)
theorem flow_Preds.mono_l : ∀ k, (∀ y0 y1 y2 y3 y4, LeO (flow_Preds.l0 k y0 y1 y2 y3 y4) (flow_Preds.l0 (k + 1) y0 y1 y2 y3 y4)) ∧ (∀ y0 y1 y2 y3 y4 y5 y6 y7 y8, LeO (flow_Preds.l1 k y0 y1 y2 y3 y4 y5 y6 y7 y8) (flow_Preds.l1 (k + 1) y0 y1 y2 y3 y4 y5 y6 y7 y8))
 | 0 => ⟨fun _ _ _ _ _ r h => by simp [flow_Preds.l0] at h, fun _ _ _ _ _ _ _ _ _ r h => by simp [flow_Preds.l1] at h⟩
 | k + 1 => by
  obtain ⟨ih0, ih1⟩ := flow_Preds.mono_l k
  refine ⟨?_, ?_⟩
  ·
   intro y0 y1 y2 y3 y4
   unfold flow_Preds.l0
   repeat' first
   | (with_reducible exact ih0 _ _ _ _ _)
   | (with_reducible exact ih1 _ _ _ _ _ _ _ _ _)
   | (with_reducible exact LeO.refl _)
   | (with_reducible exact LeO.none _)
   | (with_reducible refine LeO.ite ?_ ?_)
   | (with_reducible refine LeO.bind ?_ (fun _ => ?_))
   | exact ih0 _ _ _ _ _
   | exact ih1 _ _ _ _ _ _ _ _ _
   | exact LeO.none _
   | refine LeO.ite ?_ ?_
   | refine LeO.bind ?_ (fun _ => ?_)
  ·
   intro y0 y1 y2 y3 y4 y5 y6 y7 y8
   unfold flow_Preds.l1
   repeat' first
   | (with_reducible exact ih0 _ _ _ _ _)
   | (with_reducible exact ih1 _ _ _ _ _ _ _ _ _)
   | (with_reducible exact LeO.refl _)
   | (with_reducible exact LeO.none _)
   | (with_reducible refine LeO.ite ?_ ?_)
   | (with_reducible refine LeO.bind ?_ (fun _ => ?_))
   | exact ih0 _ _ _ _ _
   | exact ih1 _ _ _ _ _ _ _ _ _
   | exact LeO.none _
   | refine LeO.ite ?_ ?_
   | refine LeO.bind ?_ (fun _ => ?_)
theorem flow_Preds.mono : ∀ a0 k, LeO (flow_Preds.f k a0) (flow_Preds.f (k + 1) a0) := by
 intro a0 k
 obtain ⟨ih0, ih1⟩ := flow_Preds.mono_l k
 unfold flow_Preds.f
 repeat' first
   | (with_reducible exact ih0 _ _ _ _ _)
   | (with_reducible exact ih1 _ _ _ _ _ _ _ _ _)
   | (with_reducible exact LeO.refl _)
   | (with_reducible exact LeO.none _)
   | (with_reducible refine LeO.ite ?_ ?_)
   | (with_reducible refine LeO.bind ?_ (fun _ => ?_))
   | exact ih0 _ _ _ _ _
   | exact ih1 _ _ _ _ _ _ _ _ _
   | exact LeO.none _
   | refine LeO.ite ?_ ?_
   | refine LeO.bind ?_ (fun _ => ?_)
set_option maxHeartbeats 8000000 in
set_option maxRecDepth 100000 in
theorem flow_Preds.calls (k : Nat) (A0 : Option Addr) (c0 : Nat) (l0 : List (List Int)) (r : List (List Int)) (w : World) (hr0 : Kd.C (Kd.slice 3 (Kd.int .i64)) w A0 l0.length l0) (hc0 : l0.length ≤ c0) (h : flow_Preds.f k l0 = some r) :
  Calls Try.prog 28 #[.slice A0 l0.length c0] w fun e w' => ∃ v0_ : Value, e = .returned (v0_) ∧ Kd.S (Kd.slice 3 (Kd.int .i64)) 27 w' w.heap.size (fun _ => True) v0_ r ∧ Below w.heap.size w w' := by
 have HR0 := Aside0.mk hr0
 have HC0 := Aside0.mk hc0
 clear hr0 hc0
 have HB := Aside0.mk (Below.refl w.heap.size w)
 have H : (if 0 ≤ (l0.length : Int) then (if ((l0.length : Int) : Int).toNat ≤ 11728124029610 then (flow_Preds.l0 k l0 (List.replicate ((l0.length : Int) : Int).toNat []) l0 (l0.length : Int) 0) else (none)) else (none)) = some r := h
 clear h
 by_cases c2 : 0 ≤ (l0.length : Int)
 ·
  rw [if_pos c2] at H
  have c2b0 := eq_true c2
  have c2b1 : decide (0 ≤ (l0.length : Int)) = true := decide_eq_true c2
  clear c2
  by_cases c3 : ((l0.length : Int) : Int).toNat ≤ 11728124029610
  ·
   rw [if_pos c3] at H
   have c3b0 := eq_true c3
   have c3b1 : decide (((l0.length : Int) : Int).toNat ≤ 11728124029610) = true := decide_eq_true c3
   clear c3
   obtain ⟨y309, hy309⟩ : ∃ y_ : List (List Int), y_ = (List.replicate ((l0.length : Int) : Int).toNat []) := ⟨_, rfl⟩
   replace H : (flow_Preds.l0 k l0 y309 l0 (l0.length : Int) 0) = some r := by first | (rw [hy309]; with_reducible exact H) | (have H2_ := (Option.bind_some _ _).symm.trans H; rw [hy309]; with_reducible exact H2_) | (have H2_ := (Option.bind_some _ _).symm.trans H; with_reducible exact H2_) | with_reducible exact H | (rw [hy309]; exact H) | exact H
   have Ny309 := Aside0.mk hy309
   clear hy309
   have H' := Aside0.mk H
   clear H
   go_enter Try.func28, Try.ntmps28
   go_wp2_with (first | ((with_reducible refine gate_dst (N := 10) rfl ?_); (try (refine gate_guard (by rfl) ?_; dsimp only)); refine Kd.S_make (Kd.slice 3 (Kd.int .i64)) _ 27 rfl (N := 10) rfl 22 _ _ rfl (l0.length : Int) rfl rfl Try.underlying22 (.slice none 0 0) 24 info27 rfl (by decide) (by omega) [] (ok := fun _ => True) (okp := fun _ => True) ⟨_, rfl, Kd.R_nil _ _ _ _ _⟩ (fun _ hk => hk) trivial (of_decide_eq_true p10_0) (Nat.le_trans (Nat.mul_le_mul_right _ (of_decide_eq_true p10_0 : (l0.length : Int).toNat ≤ 11728124029610)) (by omega)) (Below.refl _ _) (Nat.le_refl _) ?_; intro v310 w4 ho5 hb hg_ hnew_; clear hg_ hnew_; (first | rw [← Ny309.out] at ho5 | (simp only [Int.reduceToNat] at ho5; rw [← Ny309.out] at ho5)); have n0_ := Aside0.mk (Kd.S_lower ho5 (below_size p10_1)); have n1_ := Aside0.mk (below_step p10_1 hb); clear HB; have HO311 := n0_; have HB := n1_; clear n0_ n1_; clear hb ho5))
   repeat (go_quiet (first | ((with_reducible refine gate_dst (N := 10) rfl ?_); (try (refine gate_guard (by rfl) ?_; dsimp only)); refine Kd.S_make (Kd.slice 3 (Kd.int .i64)) _ 27 rfl (N := 10) rfl 22 _ _ rfl (l0.length : Int) rfl rfl Try.underlying22 (.slice none 0 0) 24 info27 rfl (by decide) (by omega) [] (ok := fun _ => True) (okp := fun _ => True) ⟨_, rfl, Kd.R_nil _ _ _ _ _⟩ (fun _ hk => hk) trivial (of_decide_eq_true p10_0) (Nat.le_trans (Nat.mul_le_mul_right _ (of_decide_eq_true p10_0 : (l0.length : Int).toNat ≤ 11728124029610)) (by omega)) (Below.refl _ _) (Nat.le_refl _) ?_; intro v310 w4 ho5 hb hg_ hnew_; clear hg_ hnew_; (first | rw [← Ny309.out] at ho5 | (simp only [Int.reduceToNat] at ho5; rw [← Ny309.out] at ho5)); have n0_ := Aside0.mk (Kd.S_lower ho5 (below_size p10_1)); have n1_ := Aside0.mk (below_step p10_1 hb); clear HB; have HO311 := n0_; have HB := n1_; clear n0_ n1_; clear hb ho5)); try go_wp2_with (first | ((with_reducible refine gate_dst (N := 10) rfl ?_); (try (refine gate_guard (by rfl) ?_; dsimp only)); refine Kd.S_make (Kd.slice 3 (Kd.int .i64)) _ 27 rfl (N := 10) rfl 22 _ _ rfl (l0.length : Int) rfl rfl Try.underlying22 (.slice none 0 0) 24 info27 rfl (by decide) (by omega) [] (ok := fun _ => True) (okp := fun _ => True) ⟨_, rfl, Kd.R_nil _ _ _ _ _⟩ (fun _ hk => hk) trivial (of_decide_eq_true p10_0) (Nat.le_trans (Nat.mul_le_mul_right _ (of_decide_eq_true p10_0 : (l0.length : Int).toNat ≤ 11728124029610)) (by omega)) (Below.refl _ _) (Nat.le_refl _) ?_; intro v310 w4 ho5 hb hg_ hnew_; clear hg_ hnew_; (first | rw [← Ny309.out] at ho5 | (simp only [Int.reduceToNat] at ho5; rw [← Ny309.out] at ho5)); have n0_ := Aside0.mk (Kd.S_lower ho5 (below_size p10_1)); have n1_ := Aside0.mk (below_step p10_1 hb); clear HB; have HO311 := n0_; have HB := n1_; clear n0_ n1_; clear hb ho5)))
   go_loopg [13] k (fun kq v13 w' => ∃ (x3_1 : List (List Int)) (x13_1 : Int), v13 = .int .i64 x13_1 ∧ Aside0 (flow_Preds.l0 kq l0 x3_1 l0 (l0.length : Int) x13_1 = some r) ∧ Aside0 (kq ≤ k) ∧ Aside0 (Kd.S (Kd.slice 3 (Kd.int .i64)) 27 w' w.heap.size (fun _ => True) v310 x3_1) ∧ Aside0 (Below w.heap.size w w'))
   case atStart => exact ⟨(y309), (0), p10_3, H', ⟨Nat.le_refl _⟩, ⟨by (with_reducible repeat (first | apply Kd.S_alloc | apply Kd.S_drewN | apply Kd.S_drew)); exact HO311.out⟩, ⟨by repeat (first | (with_reducible first | exact HB.out | apply below_alloc | apply pw_below_drewN | apply below_drew1) | exact HB.out)⟩⟩
   case round =>
    clear H'
    (try clear c2); (try clear c2b0); (try clear c2b1); (try clear c3); (try clear c3b0); (try clear c3b1)
    obtain ⟨x3_1, x13_1, rfl, HA, HK1, HO_3, HB⟩ := hrel
    cases gk with
    | zero => exact absurd HA.out (by simp [flow_Preds.l0])
    | succ k1 =>
     have H := HA.out
     clear HA
     simp only [flow_Preds.l0] at H
     by_cases c6 : x13_1 < (l0.length : Int)
     ·
      rw [if_pos c6] at H
      have c6b0 : decide (x13_1 < (l0.length : Int)) = true := decide_eq_true c6
      clear c6
      by_cases c7 : 0 ≤ x13_1
      ·
       rw [if_pos c7] at H
       have c7b0 : decide (0 ≤ x13_1) = true := decide_eq_true c7
       clear c7
       by_cases c8 : x13_1 < (l0.length : Int)
       ·
        rw [if_pos c8] at H
        have c8b0 : decide (x13_1 < (l0.length : Int)) = true := decide_eq_true c8
        clear c8
        have H' := Aside0.mk H
        clear H
        have p312 : 0 ≤ (x13_1 : Int) := of_decide_eq_true p10_0
        have q312 : x13_1 < (l0.length : Int) := of_decide_eq_true p10_0
        obtain ⟨ad312, A312_0, c312_0, e312, hx312_0, hl312_0, hi312_0⟩ := at_L3 HR0.out x13_1 p312 q312
        cases e312
        replace hx312_0 := (HB.out.cell (World.block_lt_of_cell? w _ hx312_0)).trans hx312_0
        have HR312_0 := Aside0.mk hi312_0
        have HC312_0 := Aside0.mk hl312_0
        clear hi312_0 hl312_0
        replace p312 := eq_true p312
        replace q312 := eq_true q312
        go_wp2
        repeat (go_quiet (fail); try go_wp2)
        go_loopg [20] k1 (fun kq v20 w' => ∃ (x3_2 : List (List Int)) (x20_2 : Int), v20 = .int .i64 x20_2 ∧ Aside0 (flow_Preds.l1 kq l0 x3_2 x13_1 l0 (l0.length : Int) x13_1 (rd_L3 l0 x13_1) ((rd_L3 l0 x13_1).length : Int) x20_2 = some r) ∧ Aside0 (kq ≤ k1) ∧ Aside0 (Kd.S (Kd.slice 3 (Kd.int .i64)) 27 w' w.heap.size (fun _ => True) v310 x3_2) ∧ Aside0 (Below w.heap.size w w'))
        case atStart => exact ⟨(x3_1), (0), p10_3, H', ⟨Nat.le_refl _⟩, ⟨by (with_reducible repeat (first | apply Kd.S_alloc | apply Kd.S_drewN | apply Kd.S_drew)); exact HO_3.out⟩, ⟨by repeat (first | (with_reducible first | exact HB.out | apply below_alloc | apply pw_below_drewN | apply below_drew1) | exact HB.out)⟩⟩
        case round =>
         clear H'
         (try clear c6); (try clear c6b0); (try clear c7); (try clear c7b0); (try clear c8); (try clear c8b0); (try clear hx312_0); (try clear p312); (try clear q312)
         obtain ⟨x3_2, x20_2, rfl, HA, HK2, HO_3, HB⟩ := hrel
         cases gk with
         | zero => exact absurd HA.out (by simp [flow_Preds.l1])
         | succ k2 =>
          have H := HA.out
          clear HA
          simp only [flow_Preds.l1] at H
          by_cases c9 : x20_2 < ((rd_L3 l0 x13_1).length : Int)
          ·
           rw [if_pos c9] at H
           have c9b0 : decide (x20_2 < ((rd_L3 l0 x13_1).length : Int)) = true := decide_eq_true c9
           clear c9
           by_cases c10 : 0 ≤ x20_2
           ·
            rw [if_pos c10] at H
            have c10b0 : decide (0 ≤ x20_2) = true := decide_eq_true c10
            clear c10
            by_cases c11 : x20_2 < ((rd_L3 l0 x13_1).length : Int)
            ·
             rw [if_pos c11] at H
             have c11b0 : decide (x20_2 < ((rd_L3 l0 x13_1).length : Int)) = true := decide_eq_true c11
             clear c11
             by_cases c12 : (rd (rd_L3 l0 x13_1) x20_2) ≥ 0
             ·
              rw [if_pos c12] at H
              have c12b0 : decide (0 ≤ (rd (rd_L3 l0 x13_1) x20_2)) = true := decide_eq_true c12
              clear c12
              by_cases c13 : (rd (rd_L3 l0 x13_1) x20_2) < (l0.length : Int)
              ·
               rw [if_pos c13] at H
               have c13b0 : decide ((rd (rd_L3 l0 x13_1) x20_2) < (l0.length : Int)) = true := decide_eq_true c13
               clear c13
               by_cases c14 : 0 ≤ (rd (rd_L3 l0 x13_1) x20_2)
               ·
                rw [if_pos c14] at H
                have c14b0 : decide (0 ≤ (rd (rd_L3 l0 x13_1) x20_2)) = true := decide_eq_true c14
                clear c14
                by_cases c15 : (rd (rd_L3 l0 x13_1) x20_2) < (x3_2.length : Int)
                ·
                 rw [if_pos c15] at H
                 have c15b0 : decide ((rd (rd_L3 l0 x13_1) x20_2) < (x3_2.length : Int)) = true := decide_eq_true c15
                 clear c15
                 by_cases c16 : ((rd_L3 x3_2 (rd (rd_L3 l0 x13_1) x20_2)).length : Int) = 0
                 ·
                  rw [if_pos c16] at H
                  have c16b0 : (((rd_L3 x3_2 (rd (rd_L3 l0 x13_1) x20_2)).length : Int) == 0) = true := beq_iff_eq.mpr c16
                  have c16b1 : (((rd_L3 x3_2 (rd (rd_L3 l0 x13_1) x20_2)).length : Int) != 0) = false := bne_eq_false_iff_eq.mpr c16
                  clear c16
                  by_cases c17 : (rd_L3 x3_2 (rd (rd_L3 l0 x13_1) x20_2)).length < 17592186044416
                  ·
                   rw [if_pos c17] at H
                   have LMc17 := Aside0.mk c17
                   clear c17
                   obtain ⟨y316, hy316⟩ : ∃ y_ : List Int, y_ = ((rd_L3 x3_2 (rd (rd_L3 l0 x13_1) x20_2)) ++ [x13_1]) := ⟨_, rfl⟩
                   replace H : (flow_Preds.l1 k2 l0 (x3_2.set ((rd (rd_L3 l0 x13_1) x20_2) : Int).toNat y316) x13_1 l0 (l0.length : Int) x13_1 (rd_L3 l0 x13_1) ((rd_L3 l0 x13_1).length : Int) (wrap64 (x20_2 + 1))) = some r := by first | (rw [hy316]; with_reducible exact H) | (have H2_ := (Option.bind_some _ _).symm.trans H; rw [hy316]; with_reducible exact H2_) | (have H2_ := (Option.bind_some _ _).symm.trans H; with_reducible exact H2_) | with_reducible exact H | (rw [hy316]; exact H) | exact H
                   have Ny316 := Aside0.mk hy316
                   clear hy316
                   obtain ⟨y319, hy319⟩ : ∃ y_ : List (List Int), y_ = (x3_2.set ((rd (rd_L3 l0 x13_1) x20_2) : Int).toNat y316) := ⟨_, rfl⟩
                   replace H : (flow_Preds.l1 k2 l0 y319 x13_1 l0 (l0.length : Int) x13_1 (rd_L3 l0 x13_1) ((rd_L3 l0 x13_1).length : Int) (wrap64 (x20_2 + 1))) = some r := by first | (rw [hy319]; with_reducible exact H) | (have H2_ := (Option.bind_some _ _).symm.trans H; rw [hy319]; with_reducible exact H2_) | (have H2_ := (Option.bind_some _ _).symm.trans H; with_reducible exact H2_) | with_reducible exact H | (rw [hy319]; exact H) | exact H
                   have Ny319 := Aside0.mk hy319
                   clear hy319
                   have H' := Aside0.mk H
                   clear H
                   have p313 : 0 ≤ (x20_2 : Int) := of_decide_eq_true p10_0
                   have q313 : x20_2 < ((rd_L3 l0 x13_1).length : Int) := of_decide_eq_true p10_0
                   obtain ⟨ad313, e313, hx313_0⟩ := Kd.at_int HR312_0.out x20_2 p313 q313
                   cases e313
                   replace hx313_0 := (HB.out.cell (World.block_lt_of_cell? w _ hx313_0)).trans hx313_0
                   replace p313 := eq_true p313
                   replace q313 := eq_true q313
                   obtain ⟨Ao19, co19, eo19⟩ := Kd.S_slice HO_3.out
                   subst eo19
                   have p314 : 0 ≤ ((rd (rd_L3 l0 x13_1) x20_2) : Int) := of_decide_eq_true p10_0
                   have q314 : (rd (rd_L3 l0 x13_1) x20_2) < (x3_2.length : Int) := of_decide_eq_true p10_0
                   obtain ⟨ad314, A314_0, c314_0, e314, hx314_0, hl314_0, hi314_0⟩ := at_L3 (Kd.S_reads' HO_3.out).2.2 (rd (rd_L3 l0 x13_1) x20_2) p314 q314
                   cases e314
                   obtain ⟨ce314, hce314, hMe314, hcc314⟩ := Kd.S_get HO_3.out [] (rd (rd_L3 l0 x13_1) x20_2) p314 p10_9
                   obtain ⟨ve314_0, rfl, ge314_0⟩ := hMe314
                   have hv314_0 := hcc314 0 _ rfl
                   rw [Nat.add_zero, show ((Kd.slice 3 (Kd.int .i64))).sz = 1 from rfl, Nat.mul_one] at hv314_0
                   replace hv314_0 := Option.some.inj (hv314_0.symm.trans hx314_0)
                   rw [hv314_0] at ge314_0
                   have HL314_0 := Aside0.mk (show Kd.R (Kd.int .i64) 3 _ _ _ _ (rd_L3 x3_2 (rd (rd_L3 l0 x13_1) x20_2)) from ge314_0)
                   clear hv314_0 ge314_0
                   have HX314_0 := Aside0.mk hx314_0
                   clear hcc314 hce314
                   have HR314_0 := Aside0.mk hi314_0
                   have HC314_0 := Aside0.mk hl314_0
                   clear hi314_0 hl314_0
                   replace p314 := eq_true p314
                   replace q314 := eq_true q314
                   have p315 : 0 ≤ ((rd (rd_L3 l0 x13_1) x20_2) : Int) := of_decide_eq_true p10_0
                   have q315 : (rd (rd_L3 l0 x13_1) x20_2) < (x3_2.length : Int) := of_decide_eq_true p10_0
                   obtain ⟨ad315, A315_0, c315_0, e315, hx315_0, hl315_0, hi315_0⟩ := at_L3 (Kd.S_reads' HO_3.out).2.2 (rd (rd_L3 l0 x13_1) x20_2) p315 q315
                   obtain rfl : ad314 = ad315 := (by injection e315)
                   obtain ⟨ce315, hce315, hMe315, hcc315⟩ := Kd.S_get HO_3.out [] (rd (rd_L3 l0 x13_1) x20_2) p315 (by first | exact q315 | exact of_decide_eq_true p10_0 | (have e_ := (Kd.S_reads' HO_3.out).1; omega))
                   obtain ⟨ve315_0, rfl, ge315_0⟩ := hMe315
                   have hv315_0 := hcc315 0 _ rfl
                   rw [Nat.add_zero, show ((Kd.slice 3 (Kd.int .i64))).sz = 1 from rfl, Nat.mul_one] at hv315_0
                   replace hv315_0 := Option.some.inj (hv315_0.symm.trans hx315_0)
                   rw [hv315_0] at ge315_0
                   have HL315_0 := Aside0.mk (show Kd.R (Kd.int .i64) 3 _ _ _ _ (rd_L3 x3_2 (rd (rd_L3 l0 x13_1) x20_2)) from ge315_0)
                   clear hv315_0 ge315_0
                   have HX315_0 := Aside0.mk hx315_0
                   clear hcc315 hce315
                   have HR315_0 := Aside0.mk hi315_0
                   have HC315_0 := Aside0.mk hl315_0
                   clear hi315_0 hl315_0
                   replace p315 := eq_true p315
                   replace q315 := eq_true q315
                   have ea_ := Option.some.inj (hx314_0.symm.trans hx315_0)
                   injection ea_ with ea_ en_ ec_
                   subst ea_
                   subst ec_
                   clear en_
                   obtain ⟨go20, co20, eo20, gb20, gl20, cl20, HG20⟩ := Kd.S_form HO_3.out (by have h_ : ((rd (rd_L3 l0 x13_1) x20_2) : Int) < ((x3_2.length : Int) : Int) := of_decide_eq_true p10_0; have h2_ : 0 ≤ ((rd (rd_L3 l0 x13_1) x20_2) : Int) := (of_decide_eq_true p10_0); omega)
                   (first | cases eo20 | (injection eo20 with ea_ en_ ec_; (first | subst ea_ | (injection ea_ with ea_; subst ea_)); subst ec_; clear en_))
                   have GB20 := Aside0.mk gb20
                   have GG20 := Aside0.mk HG20
                   clear gb20 gl20 HG20
                   (first | simp only [add_plain] at hx314_0 | skip)
                   (first | simp only [add_plain] at hx315_0 | skip)
                   obtain ⟨oki20, ce20, hcl20, hM20, hcc20, _, _, hH20⟩ := Kd.S_elem HO_3.out [] ((rd (rd_L3 l0 x13_1) x20_2) : Int) (of_decide_eq_true p10_0) (by have h_ : ((rd (rd_L3 l0 x13_1) x20_2) : Int) < ((x3_2.length : Int) : Int) := of_decide_eq_true p10_0; first | exact h_ | (have e_ := (Kd.S_reads' HO_3.out).1; omega) | simpa using h_)
                   obtain ⟨ve20_0, rfl, ge20_0⟩ := hM20
                   have hv20 := hcc20 0 _ rfl
                   have hX20 := HX315_0.out
                   (try simp only [add_plain] at hX20)
                   (try simp only [Nat.add_zero] at hv20)
                   (try rw [show ((Kd.slice 3 (Kd.int .i64))).sz = 1 from rfl, Nat.mul_one] at hv20)
                   replace hv20 := Option.some.inj (hv20.symm.trans hX20)
                   subst hv20
                   clear hX20 hcc20 hcl20
                   have UU20 := Aside0.mk (show Kd.R (Kd.int .i64) 3 _ w.heap.size oki20 (.slice A314_0 (rd_L3 x3_2 (rd (rd_L3 l0 x13_1) x20_2)).length c314_0) (rd_L3 x3_2 (rd (rd_L3 l0 x13_1) x20_2)) from ge20_0)
                   have HH20 := Aside0.mk hH20
                   have HN20 := Aside0.mk (Kd.S_reads' HO_3.out).1
                   clear hH20 ge20_0
                   go_wp2_with (first | ((with_reducible refine gate_builtin (b := .append) (xs := #[.tmp 61, .tmp 63]) rfl ?_); (try (refine gate_guard (by rfl) ?_; dsimp only)); at_builtin; refine Kd.R_append (Kd.int .i64) (w0 := w) w.heap.size rfl (.tmp 61) (.tmp 63) 27 3 (.int .i64 0) 8 rfl Try.underlying27 info3 rfl (by decide) (by omega) (.slice A314_0 (rd_L3 x3_2 (rd (rd_L3 l0 x13_1) x20_2)).length c314_0) (rd_L3 x3_2 (rd (rd_L3 l0 x13_1) x20_2)) x13_1 [.int .i64 x13_1] (fun k_ => oki20 k_ ∨ ((fun _ => True)) k_ ∧ wr.heap.size ≤ k_) (fun _ => False) rfl rfl ?aP (fun _ hk => hk.elim) ?aF ?aO ?aB ?aS ?aL ?_; (case aP => exact rfl); (case aB => exact p10_1); (case aF => exact (fun k_ hk => .inr ⟨trivial, hk⟩)); (case aO => exact p10_4); (case aS => exact (below_size p10_1)); (case aL => have := LMc17.out; omega); intro v317 w21 ho hb hg hat; rw [← Ny316.out] at ho; have n0_ := Aside0.mk (hb); have n1_ := Aside0.mk (Kd.H_grown (Kd.H_widen p10_6) hg (fun k_ e_ => .inl (UU20.out.1 k_ e_))); have n2_ := Aside0.mk (ho); clear HB; clear HH20; clear HO_3; clear UU20; clear HL314_0; clear HL315_0; have HB := n0_; have HH20 := n1_; have HO318 := n2_; clear n0_ n1_ n2_; clear ho hb hg hat; have p18 : 0 ≤ ((rd (rd_L3 l0 x13_1) x20_2) : Int) := of_decide_eq_true p10_0; have q18 : ((rd (rd_L3 l0 x13_1) x20_2) : Int) < ((x3_2.length : Int) : Int) := of_decide_eq_true p10_0; replace p18 := eq_true p18; replace q18 := eq_true q18; obtain ⟨Ao24, co24, eo24⟩ := Kd.R_slice HO318.out; subst eo24; obtain ⟨_, _, hraw22, _, _, hcc22, _⟩ := Kd.H_raw HH20.out (of_decide_eq_true p10_0) (by have h_ : ((rd (rd_L3 l0 x13_1) x20_2) : Int) < ((x3_2.length : Int) : Int) := of_decide_eq_true p10_0; first | exact h_ | (have e_ := (HN20.out); omega) | simpa using h_); obtain ⟨_, hfr22⟩ := Kd.H_at HH20.out (of_decide_eq_true p10_0) (by have h_ : ((rd (rd_L3 l0 x13_1) x20_2) : Int) < ((x3_2.length : Int) : Int) := of_decide_eq_true p10_0; first | exact h_ | (have e_ := (HN20.out); omega) | simpa using h_); have hx22_0 := hcc22 0 _ rfl; have hf22_0 := hfr22 0; (try simp only [Nat.add_zero] at hx22_0 hf22_0); (try rw [show ((Kd.slice 3 (Kd.int .i64))).sz = 1 from rfl, Nat.mul_one] at hx22_0); (try rw [show ((Kd.slice 3 (Kd.int .i64))).sz = 1 from rfl, Nat.mul_one] at hf22_0); have HP22 := Kd.S_seg0 HH20.out (of_decide_eq_true p10_0) (by have h_ : ((rd (rd_L3 l0 x13_1) x20_2) : Int) < ((x3_2.length : Int) : Int) := of_decide_eq_true p10_0; first | exact h_ | (have e_ := (HN20.out); omega) | simpa using h_) (seg := [.slice Ao24 y316.length co24]) (j := 0) (show 1 ≤ 1 from by decide) (x' := y316) (Kd.M_row HO318.out) (fun _ hk => hk); (try simp only [show ((Kd.slice 3 (Kd.int .i64))).sz = 1 from rfl, Nat.mul_one, Nat.add_zero] at HP22); clear hcc22 hfr22) | ((with_reducible refine gate_store (t := 27) (p := 65) rfl ?_); (try (rw [drewN_self w21]; generalize hq_ : World.drewN w21 _ = w21; have n0_ := Aside0.mk (Kd.S_at hq_ HO_3.out); have n1_ := Aside0.mk (below_at hq_ HB.out); clear hq_ HO_3 HB; have HO_3 := n0_; have HB := n1_; clear n0_ n1_; (try (obtain ⟨Ao24, co24, eo24⟩ := Kd.R_slice HO318.out)); (try (subst eo24)); (try (obtain ⟨_, _, hraw22, _, _, hcc22, _⟩ := Kd.H_raw HH20.out (of_decide_eq_true p10_0) (by have h_ : ((rd (rd_L3 l0 x13_1) x20_2) : Int) < ((x3_2.length : Int) : Int) := of_decide_eq_true p10_0; first | exact h_ | (have e_ := (HN20.out); omega) | simpa using h_))); (try (obtain ⟨_, hfr22⟩ := Kd.H_at HH20.out (of_decide_eq_true p10_0) (by have h_ : ((rd (rd_L3 l0 x13_1) x20_2) : Int) < ((x3_2.length : Int) : Int) := of_decide_eq_true p10_0; first | exact h_ | (have e_ := (HN20.out); omega) | simpa using h_))); (try (have hx22_0 := hcc22 0 _ rfl)); (try (have hf22_0 := hfr22 0)); (try (try simp only [Nat.add_zero] at hx22_0 hf22_0)); (try (try rw [show ((Kd.slice 3 (Kd.int .i64))).sz = 1 from rfl, Nat.mul_one] at hx22_0)); (try (try rw [show ((Kd.slice 3 (Kd.int .i64))).sz = 1 from rfl, Nat.mul_one] at hf22_0)); (try (have HP22 := Kd.S_seg0 HH20.out (of_decide_eq_true p10_0) (by have h_ : ((rd (rd_L3 l0 x13_1) x20_2) : Int) < ((x3_2.length : Int) : Int) := of_decide_eq_true p10_0; first | exact h_ | (have e_ := (HN20.out); omega) | simpa using h_) (seg := [.slice Ao24 y316.length co24]) (j := 0) (show 1 ≤ 1 from by decide) (x' := y316) (Kd.M_row HO318.out) (fun _ hk => hk))); (try (try simp only [show ((Kd.slice 3 (Kd.int .i64))).sz = 1 from rfl, Nat.mul_one, Nat.add_zero] at HP22)); (try (clear hcc22 hfr22)))); refine store_event (t := 27) (p := 65) (v := ?vo_w23) (w1 := (w21.setCell ⟨go20, ((rd (rd_L3 l0 x13_1) x20_2) : Int).toNat, none⟩ (.slice Ao24 y316.length co24))) ?hg ?ho ?hn ?hr ?_; (case ho => rfl); (case hg => rfl); (case hn => rfl); (case hr => first | (go_simp; done) | (go_simp; rfl)); intro w23 hw; have hg : w21.grownBy w23 (some go20) := (by rw [hw]; exact HP22.2); have hp_ : Kd.S (Kd.slice 3 (Kd.int .i64)) 27 w23 w.heap.size (fun _ => True) (.slice (some ⟨go20, 0, none⟩) x3_2.length co19) y319 := (by rw [hw, Ny319.out]; exact HP22.1); clear HP22; have n0_ := Aside0.mk ((by rw [hw]; exact below_set HB.out GB20.out : Below w.heap.size w w23)); have n1_ := Aside0.mk (hp_); clear HB; clear HO318; clear HH20; have HB := n0_; have HO_3 := n1_; clear n0_ n1_; clear hg hw hp_ hraw22))
                   repeat (go_quiet (first | ((with_reducible refine gate_builtin (b := .append) (xs := #[.tmp 61, .tmp 63]) rfl ?_); (try (refine gate_guard (by rfl) ?_; dsimp only)); at_builtin; refine Kd.R_append (Kd.int .i64) (w0 := w) w.heap.size rfl (.tmp 61) (.tmp 63) 27 3 (.int .i64 0) 8 rfl Try.underlying27 info3 rfl (by decide) (by omega) (.slice A314_0 (rd_L3 x3_2 (rd (rd_L3 l0 x13_1) x20_2)).length c314_0) (rd_L3 x3_2 (rd (rd_L3 l0 x13_1) x20_2)) x13_1 [.int .i64 x13_1] (fun k_ => oki20 k_ ∨ ((fun _ => True)) k_ ∧ wr.heap.size ≤ k_) (fun _ => False) rfl rfl ?aP (fun _ hk => hk.elim) ?aF ?aO ?aB ?aS ?aL ?_; (case aP => exact rfl); (case aB => exact p10_1); (case aF => exact (fun k_ hk => .inr ⟨trivial, hk⟩)); (case aO => exact p10_4); (case aS => exact (below_size p10_1)); (case aL => have := LMc17.out; omega); intro v317 w21 ho hb hg hat; rw [← Ny316.out] at ho; have n0_ := Aside0.mk (hb); have n1_ := Aside0.mk (Kd.H_grown (Kd.H_widen p10_6) hg (fun k_ e_ => .inl (UU20.out.1 k_ e_))); have n2_ := Aside0.mk (ho); clear HB; clear HH20; clear HO_3; clear UU20; clear HL314_0; clear HL315_0; have HB := n0_; have HH20 := n1_; have HO318 := n2_; clear n0_ n1_ n2_; clear ho hb hg hat; have p18 : 0 ≤ ((rd (rd_L3 l0 x13_1) x20_2) : Int) := of_decide_eq_true p10_0; have q18 : ((rd (rd_L3 l0 x13_1) x20_2) : Int) < ((x3_2.length : Int) : Int) := of_decide_eq_true p10_0; replace p18 := eq_true p18; replace q18 := eq_true q18; obtain ⟨Ao24, co24, eo24⟩ := Kd.R_slice HO318.out; subst eo24; obtain ⟨_, _, hraw22, _, _, hcc22, _⟩ := Kd.H_raw HH20.out (of_decide_eq_true p10_0) (by have h_ : ((rd (rd_L3 l0 x13_1) x20_2) : Int) < ((x3_2.length : Int) : Int) := of_decide_eq_true p10_0; first | exact h_ | (have e_ := (HN20.out); omega) | simpa using h_); obtain ⟨_, hfr22⟩ := Kd.H_at HH20.out (of_decide_eq_true p10_0) (by have h_ : ((rd (rd_L3 l0 x13_1) x20_2) : Int) < ((x3_2.length : Int) : Int) := of_decide_eq_true p10_0; first | exact h_ | (have e_ := (HN20.out); omega) | simpa using h_); have hx22_0 := hcc22 0 _ rfl; have hf22_0 := hfr22 0; (try simp only [Nat.add_zero] at hx22_0 hf22_0); (try rw [show ((Kd.slice 3 (Kd.int .i64))).sz = 1 from rfl, Nat.mul_one] at hx22_0); (try rw [show ((Kd.slice 3 (Kd.int .i64))).sz = 1 from rfl, Nat.mul_one] at hf22_0); have HP22 := Kd.S_seg0 HH20.out (of_decide_eq_true p10_0) (by have h_ : ((rd (rd_L3 l0 x13_1) x20_2) : Int) < ((x3_2.length : Int) : Int) := of_decide_eq_true p10_0; first | exact h_ | (have e_ := (HN20.out); omega) | simpa using h_) (seg := [.slice Ao24 y316.length co24]) (j := 0) (show 1 ≤ 1 from by decide) (x' := y316) (Kd.M_row HO318.out) (fun _ hk => hk); (try simp only [show ((Kd.slice 3 (Kd.int .i64))).sz = 1 from rfl, Nat.mul_one, Nat.add_zero] at HP22); clear hcc22 hfr22) | ((with_reducible refine gate_store (t := 27) (p := 65) rfl ?_); (try (rw [drewN_self w21]; generalize hq_ : World.drewN w21 _ = w21; have n0_ := Aside0.mk (Kd.S_at hq_ HO_3.out); have n1_ := Aside0.mk (below_at hq_ HB.out); clear hq_ HO_3 HB; have HO_3 := n0_; have HB := n1_; clear n0_ n1_; (try (obtain ⟨Ao24, co24, eo24⟩ := Kd.R_slice HO318.out)); (try (subst eo24)); (try (obtain ⟨_, _, hraw22, _, _, hcc22, _⟩ := Kd.H_raw HH20.out (of_decide_eq_true p10_0) (by have h_ : ((rd (rd_L3 l0 x13_1) x20_2) : Int) < ((x3_2.length : Int) : Int) := of_decide_eq_true p10_0; first | exact h_ | (have e_ := (HN20.out); omega) | simpa using h_))); (try (obtain ⟨_, hfr22⟩ := Kd.H_at HH20.out (of_decide_eq_true p10_0) (by have h_ : ((rd (rd_L3 l0 x13_1) x20_2) : Int) < ((x3_2.length : Int) : Int) := of_decide_eq_true p10_0; first | exact h_ | (have e_ := (HN20.out); omega) | simpa using h_))); (try (have hx22_0 := hcc22 0 _ rfl)); (try (have hf22_0 := hfr22 0)); (try (try simp only [Nat.add_zero] at hx22_0 hf22_0)); (try (try rw [show ((Kd.slice 3 (Kd.int .i64))).sz = 1 from rfl, Nat.mul_one] at hx22_0)); (try (try rw [show ((Kd.slice 3 (Kd.int .i64))).sz = 1 from rfl, Nat.mul_one] at hf22_0)); (try (have HP22 := Kd.S_seg0 HH20.out (of_decide_eq_true p10_0) (by have h_ : ((rd (rd_L3 l0 x13_1) x20_2) : Int) < ((x3_2.length : Int) : Int) := of_decide_eq_true p10_0; first | exact h_ | (have e_ := (HN20.out); omega) | simpa using h_) (seg := [.slice Ao24 y316.length co24]) (j := 0) (show 1 ≤ 1 from by decide) (x' := y316) (Kd.M_row HO318.out) (fun _ hk => hk))); (try (try simp only [show ((Kd.slice 3 (Kd.int .i64))).sz = 1 from rfl, Nat.mul_one, Nat.add_zero] at HP22)); (try (clear hcc22 hfr22)))); refine store_event (t := 27) (p := 65) (v := ?vo_w23) (w1 := (w21.setCell ⟨go20, ((rd (rd_L3 l0 x13_1) x20_2) : Int).toNat, none⟩ (.slice Ao24 y316.length co24))) ?hg ?ho ?hn ?hr ?_; (case ho => rfl); (case hg => rfl); (case hn => rfl); (case hr => first | (go_simp; done) | (go_simp; rfl)); intro w23 hw; have hg : w21.grownBy w23 (some go20) := (by rw [hw]; exact HP22.2); have hp_ : Kd.S (Kd.slice 3 (Kd.int .i64)) 27 w23 w.heap.size (fun _ => True) (.slice (some ⟨go20, 0, none⟩) x3_2.length co19) y319 := (by rw [hw, Ny319.out]; exact HP22.1); clear HP22; have n0_ := Aside0.mk ((by rw [hw]; exact below_set HB.out GB20.out : Below w.heap.size w w23)); have n1_ := Aside0.mk (hp_); clear HB; clear HO318; clear HH20; have HB := n0_; have HO_3 := n1_; clear n0_ n1_; clear hg hw hp_ hraw22)); try go_wp2_with (first | ((with_reducible refine gate_builtin (b := .append) (xs := #[.tmp 61, .tmp 63]) rfl ?_); (try (refine gate_guard (by rfl) ?_; dsimp only)); at_builtin; refine Kd.R_append (Kd.int .i64) (w0 := w) w.heap.size rfl (.tmp 61) (.tmp 63) 27 3 (.int .i64 0) 8 rfl Try.underlying27 info3 rfl (by decide) (by omega) (.slice A314_0 (rd_L3 x3_2 (rd (rd_L3 l0 x13_1) x20_2)).length c314_0) (rd_L3 x3_2 (rd (rd_L3 l0 x13_1) x20_2)) x13_1 [.int .i64 x13_1] (fun k_ => oki20 k_ ∨ ((fun _ => True)) k_ ∧ wr.heap.size ≤ k_) (fun _ => False) rfl rfl ?aP (fun _ hk => hk.elim) ?aF ?aO ?aB ?aS ?aL ?_; (case aP => exact rfl); (case aB => exact p10_1); (case aF => exact (fun k_ hk => .inr ⟨trivial, hk⟩)); (case aO => exact p10_4); (case aS => exact (below_size p10_1)); (case aL => have := LMc17.out; omega); intro v317 w21 ho hb hg hat; rw [← Ny316.out] at ho; have n0_ := Aside0.mk (hb); have n1_ := Aside0.mk (Kd.H_grown (Kd.H_widen p10_6) hg (fun k_ e_ => .inl (UU20.out.1 k_ e_))); have n2_ := Aside0.mk (ho); clear HB; clear HH20; clear HO_3; clear UU20; clear HL314_0; clear HL315_0; have HB := n0_; have HH20 := n1_; have HO318 := n2_; clear n0_ n1_ n2_; clear ho hb hg hat; have p18 : 0 ≤ ((rd (rd_L3 l0 x13_1) x20_2) : Int) := of_decide_eq_true p10_0; have q18 : ((rd (rd_L3 l0 x13_1) x20_2) : Int) < ((x3_2.length : Int) : Int) := of_decide_eq_true p10_0; replace p18 := eq_true p18; replace q18 := eq_true q18; obtain ⟨Ao24, co24, eo24⟩ := Kd.R_slice HO318.out; subst eo24; obtain ⟨_, _, hraw22, _, _, hcc22, _⟩ := Kd.H_raw HH20.out (of_decide_eq_true p10_0) (by have h_ : ((rd (rd_L3 l0 x13_1) x20_2) : Int) < ((x3_2.length : Int) : Int) := of_decide_eq_true p10_0; first | exact h_ | (have e_ := (HN20.out); omega) | simpa using h_); obtain ⟨_, hfr22⟩ := Kd.H_at HH20.out (of_decide_eq_true p10_0) (by have h_ : ((rd (rd_L3 l0 x13_1) x20_2) : Int) < ((x3_2.length : Int) : Int) := of_decide_eq_true p10_0; first | exact h_ | (have e_ := (HN20.out); omega) | simpa using h_); have hx22_0 := hcc22 0 _ rfl; have hf22_0 := hfr22 0; (try simp only [Nat.add_zero] at hx22_0 hf22_0); (try rw [show ((Kd.slice 3 (Kd.int .i64))).sz = 1 from rfl, Nat.mul_one] at hx22_0); (try rw [show ((Kd.slice 3 (Kd.int .i64))).sz = 1 from rfl, Nat.mul_one] at hf22_0); have HP22 := Kd.S_seg0 HH20.out (of_decide_eq_true p10_0) (by have h_ : ((rd (rd_L3 l0 x13_1) x20_2) : Int) < ((x3_2.length : Int) : Int) := of_decide_eq_true p10_0; first | exact h_ | (have e_ := (HN20.out); omega) | simpa using h_) (seg := [.slice Ao24 y316.length co24]) (j := 0) (show 1 ≤ 1 from by decide) (x' := y316) (Kd.M_row HO318.out) (fun _ hk => hk); (try simp only [show ((Kd.slice 3 (Kd.int .i64))).sz = 1 from rfl, Nat.mul_one, Nat.add_zero] at HP22); clear hcc22 hfr22) | ((with_reducible refine gate_store (t := 27) (p := 65) rfl ?_); (try (rw [drewN_self w21]; generalize hq_ : World.drewN w21 _ = w21; have n0_ := Aside0.mk (Kd.S_at hq_ HO_3.out); have n1_ := Aside0.mk (below_at hq_ HB.out); clear hq_ HO_3 HB; have HO_3 := n0_; have HB := n1_; clear n0_ n1_; (try (obtain ⟨Ao24, co24, eo24⟩ := Kd.R_slice HO318.out)); (try (subst eo24)); (try (obtain ⟨_, _, hraw22, _, _, hcc22, _⟩ := Kd.H_raw HH20.out (of_decide_eq_true p10_0) (by have h_ : ((rd (rd_L3 l0 x13_1) x20_2) : Int) < ((x3_2.length : Int) : Int) := of_decide_eq_true p10_0; first | exact h_ | (have e_ := (HN20.out); omega) | simpa using h_))); (try (obtain ⟨_, hfr22⟩ := Kd.H_at HH20.out (of_decide_eq_true p10_0) (by have h_ : ((rd (rd_L3 l0 x13_1) x20_2) : Int) < ((x3_2.length : Int) : Int) := of_decide_eq_true p10_0; first | exact h_ | (have e_ := (HN20.out); omega) | simpa using h_))); (try (have hx22_0 := hcc22 0 _ rfl)); (try (have hf22_0 := hfr22 0)); (try (try simp only [Nat.add_zero] at hx22_0 hf22_0)); (try (try rw [show ((Kd.slice 3 (Kd.int .i64))).sz = 1 from rfl, Nat.mul_one] at hx22_0)); (try (try rw [show ((Kd.slice 3 (Kd.int .i64))).sz = 1 from rfl, Nat.mul_one] at hf22_0)); (try (have HP22 := Kd.S_seg0 HH20.out (of_decide_eq_true p10_0) (by have h_ : ((rd (rd_L3 l0 x13_1) x20_2) : Int) < ((x3_2.length : Int) : Int) := of_decide_eq_true p10_0; first | exact h_ | (have e_ := (HN20.out); omega) | simpa using h_) (seg := [.slice Ao24 y316.length co24]) (j := 0) (show 1 ≤ 1 from by decide) (x' := y316) (Kd.M_row HO318.out) (fun _ hk => hk))); (try (try simp only [show ((Kd.slice 3 (Kd.int .i64))).sz = 1 from rfl, Nat.mul_one, Nat.add_zero] at HP22)); (try (clear hcc22 hfr22)))); refine store_event (t := 27) (p := 65) (v := ?vo_w23) (w1 := (w21.setCell ⟨go20, ((rd (rd_L3 l0 x13_1) x20_2) : Int).toNat, none⟩ (.slice Ao24 y316.length co24))) ?hg ?ho ?hn ?hr ?_; (case ho => rfl); (case hg => rfl); (case hn => rfl); (case hr => first | (go_simp; done) | (go_simp; rfl)); intro w23 hw; have hg : w21.grownBy w23 (some go20) := (by rw [hw]; exact HP22.2); have hp_ : Kd.S (Kd.slice 3 (Kd.int .i64)) 27 w23 w.heap.size (fun _ => True) (.slice (some ⟨go20, 0, none⟩) x3_2.length co19) y319 := (by rw [hw, Ny319.out]; exact HP22.1); clear HP22; have n0_ := Aside0.mk ((by rw [hw]; exact below_set HB.out GB20.out : Below w.heap.size w w23)); have n1_ := Aside0.mk (hp_); clear HB; clear HO318; clear HH20; have HB := n0_; have HO_3 := n1_; clear n0_ n1_; clear hg hw hp_ hraw22)))
                   go_roundg k2
                   case measure => have := HK1.out; have := HK2.out; omega
                   case rel => exact ⟨(y319), (wrap64 (x20_2 + 1)), p10_3, H', ⟨by have := HK1.out; have := HK2.out; omega⟩, ⟨by (with_reducible repeat (first | apply Kd.S_alloc | apply Kd.S_drewN | apply Kd.S_drew)); exact HO_3.out⟩, ⟨by repeat (first | (with_reducible first | exact HB.out | apply below_alloc | apply pw_below_drewN | apply below_drew1) | exact HB.out)⟩⟩
                  ·
                   rw [if_neg c17] at H
                   exact absurd H (by simp)
                 ·
                  rw [if_neg c16] at H
                  have c16b0 : (((rd_L3 x3_2 (rd (rd_L3 l0 x13_1) x20_2)).length : Int) == 0) = false := beq_eq_false_iff_ne.mpr c16
                  have c16b1 : (((rd_L3 x3_2 (rd (rd_L3 l0 x13_1) x20_2)).length : Int) != 0) = true := bne_iff_ne.mpr c16
                  have c16b2 : ¬ ((rd_L3 x3_2 (rd (rd_L3 l0 x13_1) x20_2)) = []) := fun h_ => c16 (by rw [h_]; rfl)
                  obtain ⟨ji25, hji25⟩ : ∃ j_ : Int, (wrap64 (((rd_L3 x3_2 (rd (rd_L3 l0 x13_1) x20_2)).length : Int) - 1)) = j_ := ⟨_, rfl⟩
                  replace H : (if 0 ≤ (ji25) then (if (ji25) < ((rd_L3 x3_2 (rd (rd_L3 l0 x13_1) x20_2)).length : Int) then (if (rd (rd_L3 x3_2 (rd (rd_L3 l0 x13_1) x20_2)) (ji25)) = x13_1 then (flow_Preds.l1 k2 l0 x3_2 x13_1 l0 (l0.length : Int) x13_1 (rd_L3 l0 x13_1) ((rd_L3 l0 x13_1).length : Int) (wrap64 (x20_2 + 1))) else (if (rd_L3 x3_2 (rd (rd_L3 l0 x13_1) x20_2)).length < 17592186044416 then (flow_Preds.l1 k2 l0 (x3_2.set ((rd (rd_L3 l0 x13_1) x20_2) : Int).toNat ((rd_L3 x3_2 (rd (rd_L3 l0 x13_1) x20_2)) ++ [x13_1])) x13_1 l0 (l0.length : Int) x13_1 (rd_L3 l0 x13_1) ((rd_L3 l0 x13_1).length : Int) (wrap64 (x20_2 + 1))) else (none))) else (none)) else (none)) = some r := by first | (rw [hji25] at H; exact H) | (simp only [hji25] at H ⊢; exact H)
                  have hji25w : (IntKind.i64.wrap (((rd_L3 x3_2 (rd (rd_L3 l0 x13_1) x20_2)).length : Int) - 1)) = ji25 := (i64_w _).trans hji25
                  by_cases c26 : 0 ≤ (ji25)
                  ·
                   rw [if_pos c26] at H
                   have c26b0 : decide (0 ≤ (ji25)) = true := decide_eq_true c26
                   clear c26
                   by_cases c27 : (ji25) < ((rd_L3 x3_2 (rd (rd_L3 l0 x13_1) x20_2)).length : Int)
                   ·
                    rw [if_pos c27] at H
                    have c27b0 : decide ((ji25) < ((rd_L3 x3_2 (rd (rd_L3 l0 x13_1) x20_2)).length : Int)) = true := decide_eq_true c27
                    clear c27
                    by_cases c28 : (rd (rd_L3 x3_2 (rd (rd_L3 l0 x13_1) x20_2)) (ji25)) = x13_1
                    ·
                     rw [if_pos c28] at H
                     have c28b0 : ((rd (rd_L3 x3_2 (rd (rd_L3 l0 x13_1) x20_2)) (ji25)) == x13_1) = true := beq_iff_eq.mpr c28
                     have c28b1 : ((rd (rd_L3 x3_2 (rd (rd_L3 l0 x13_1) x20_2)) (ji25)) != x13_1) = false := bne_eq_false_iff_eq.mpr c28
                     clear c28
                     have H' := Aside0.mk H
                     clear H
                     have p313 : 0 ≤ (x20_2 : Int) := of_decide_eq_true p10_0
                     have q313 : x20_2 < ((rd_L3 l0 x13_1).length : Int) := of_decide_eq_true p10_0
                     obtain ⟨ad313, e313, hx313_0⟩ := Kd.at_int HR312_0.out x20_2 p313 q313
                     cases e313
                     replace hx313_0 := (HB.out.cell (World.block_lt_of_cell? w _ hx313_0)).trans hx313_0
                     replace p313 := eq_true p313
                     replace q313 := eq_true q313
                     obtain ⟨Ao29, co29, eo29⟩ := Kd.S_slice HO_3.out
                     subst eo29
                     have p314 : 0 ≤ ((rd (rd_L3 l0 x13_1) x20_2) : Int) := of_decide_eq_true p10_0
                     have q314 : (rd (rd_L3 l0 x13_1) x20_2) < (x3_2.length : Int) := of_decide_eq_true p10_0
                     obtain ⟨ad314, A314_0, c314_0, e314, hx314_0, hl314_0, hi314_0⟩ := at_L3 (Kd.S_reads' HO_3.out).2.2 (rd (rd_L3 l0 x13_1) x20_2) p314 q314
                     cases e314
                     obtain ⟨ce314, hce314, hMe314, hcc314⟩ := Kd.S_get HO_3.out [] (rd (rd_L3 l0 x13_1) x20_2) p314 p10_9
                     obtain ⟨ve314_0, rfl, ge314_0⟩ := hMe314
                     have hv314_0 := hcc314 0 _ rfl
                     rw [Nat.add_zero, show ((Kd.slice 3 (Kd.int .i64))).sz = 1 from rfl, Nat.mul_one] at hv314_0
                     replace hv314_0 := Option.some.inj (hv314_0.symm.trans hx314_0)
                     rw [hv314_0] at ge314_0
                     have HL314_0 := Aside0.mk (show Kd.R (Kd.int .i64) 3 _ _ _ _ (rd_L3 x3_2 (rd (rd_L3 l0 x13_1) x20_2)) from ge314_0)
                     clear hv314_0 ge314_0
                     have HX314_0 := Aside0.mk hx314_0
                     clear hcc314 hce314
                     have HR314_0 := Aside0.mk hi314_0
                     have HC314_0 := Aside0.mk hl314_0
                     clear hi314_0 hl314_0
                     replace p314 := eq_true p314
                     replace q314 := eq_true q314
                     have p320 : 0 ≤ ((rd (rd_L3 l0 x13_1) x20_2) : Int) := of_decide_eq_true p10_0
                     have q320 : (rd (rd_L3 l0 x13_1) x20_2) < (x3_2.length : Int) := of_decide_eq_true p10_0
                     obtain ⟨ad320, A320_0, c320_0, e320, hx320_0, hl320_0, hi320_0⟩ := at_L3 (Kd.S_reads' HO_3.out).2.2 (rd (rd_L3 l0 x13_1) x20_2) p320 q320
                     obtain rfl : ad314 = ad320 := (by injection e320)
                     obtain ⟨ce320, hce320, hMe320, hcc320⟩ := Kd.S_get HO_3.out [] (rd (rd_L3 l0 x13_1) x20_2) p320 (by first | exact q320 | exact of_decide_eq_true p10_0 | (have e_ := (Kd.S_reads' HO_3.out).1; omega))
                     obtain ⟨ve320_0, rfl, ge320_0⟩ := hMe320
                     have hv320_0 := hcc320 0 _ rfl
                     rw [Nat.add_zero, show ((Kd.slice 3 (Kd.int .i64))).sz = 1 from rfl, Nat.mul_one] at hv320_0
                     replace hv320_0 := Option.some.inj (hv320_0.symm.trans hx320_0)
                     rw [hv320_0] at ge320_0
                     have HL320_0 := Aside0.mk (show Kd.R (Kd.int .i64) 3 _ _ _ _ (rd_L3 x3_2 (rd (rd_L3 l0 x13_1) x20_2)) from ge320_0)
                     clear hv320_0 ge320_0
                     have HX320_0 := Aside0.mk hx320_0
                     clear hcc320 hce320
                     have HR320_0 := Aside0.mk hi320_0
                     have HC320_0 := Aside0.mk hl320_0
                     clear hi320_0 hl320_0
                     replace p320 := eq_true p320
                     replace q320 := eq_true q320
                     have ea_ := Option.some.inj (hx314_0.symm.trans hx320_0)
                     injection ea_ with ea_ en_ ec_
                     subst ea_
                     subst ec_
                     clear en_
                     have p321 : 0 ≤ ((rd (rd_L3 l0 x13_1) x20_2) : Int) := of_decide_eq_true p10_0
                     have q321 : (rd (rd_L3 l0 x13_1) x20_2) < (x3_2.length : Int) := of_decide_eq_true p10_0
                     obtain ⟨ad321, A321_0, c321_0, e321, hx321_0, hl321_0, hi321_0⟩ := at_L3 (Kd.S_reads' HO_3.out).2.2 (rd (rd_L3 l0 x13_1) x20_2) p321 q321
                     obtain rfl : ad314 = ad321 := (by injection e321)
                     obtain ⟨ce321, hce321, hMe321, hcc321⟩ := Kd.S_get HO_3.out [] (rd (rd_L3 l0 x13_1) x20_2) p321 (by first | exact q321 | exact of_decide_eq_true p10_0 | (have e_ := (Kd.S_reads' HO_3.out).1; omega))
                     obtain ⟨ve321_0, rfl, ge321_0⟩ := hMe321
                     have hv321_0 := hcc321 0 _ rfl
                     rw [Nat.add_zero, show ((Kd.slice 3 (Kd.int .i64))).sz = 1 from rfl, Nat.mul_one] at hv321_0
                     replace hv321_0 := Option.some.inj (hv321_0.symm.trans hx321_0)
                     rw [hv321_0] at ge321_0
                     have HL321_0 := Aside0.mk (show Kd.R (Kd.int .i64) 3 _ _ _ _ (rd_L3 x3_2 (rd (rd_L3 l0 x13_1) x20_2)) from ge321_0)
                     clear hv321_0 ge321_0
                     have HX321_0 := Aside0.mk hx321_0
                     clear hcc321 hce321
                     have HR321_0 := Aside0.mk hi321_0
                     have HC321_0 := Aside0.mk hl321_0
                     clear hi321_0 hl321_0
                     replace p321 := eq_true p321
                     replace q321 := eq_true q321
                     have ea_ := Option.some.inj (hx314_0.symm.trans hx321_0)
                     injection ea_ with ea_ en_ ec_
                     subst ea_
                     subst ec_
                     clear en_
                     have p322 : 0 ≤ ((ji25) : Int) := of_decide_eq_true p10_0
                     have q322 : (ji25) < ((rd_L3 x3_2 (rd (rd_L3 l0 x13_1) x20_2)).length : Int) := of_decide_eq_true p10_0
                     obtain ⟨ad322, e322, hx322_0⟩ := Kd.at_int p10_8 (ji25) p322 q322
                     cases e322
                     replace p322 := eq_true p322
                     replace q322 := eq_true q322
                     go_wp2
                     repeat (go_quiet (fail); try go_wp2)
                     go_roundg k2
                     case measure => have := HK1.out; have := HK2.out; omega
                     case rel => exact ⟨(x3_2), (wrap64 (x20_2 + 1)), p10_3, H', ⟨by have := HK1.out; have := HK2.out; omega⟩, ⟨by (with_reducible repeat (first | apply Kd.S_alloc | apply Kd.S_drewN | apply Kd.S_drew)); exact HO_3.out⟩, ⟨by repeat (first | (with_reducible first | exact HB.out | apply below_alloc | apply pw_below_drewN | apply below_drew1) | exact HB.out)⟩⟩
                    ·
                     rw [if_neg c28] at H
                     have c28b0 : ((rd (rd_L3 x3_2 (rd (rd_L3 l0 x13_1) x20_2)) (ji25)) == x13_1) = false := beq_eq_false_iff_ne.mpr c28
                     have c28b1 : ((rd (rd_L3 x3_2 (rd (rd_L3 l0 x13_1) x20_2)) (ji25)) != x13_1) = true := bne_iff_ne.mpr c28
                     by_cases c30 : (rd_L3 x3_2 (rd (rd_L3 l0 x13_1) x20_2)).length < 17592186044416
                     ·
                      rw [if_pos c30] at H
                      have LMc30 := Aside0.mk c30
                      clear c30
                      obtain ⟨y324, hy324⟩ : ∃ y_ : List Int, y_ = ((rd_L3 x3_2 (rd (rd_L3 l0 x13_1) x20_2)) ++ [x13_1]) := ⟨_, rfl⟩
                      replace H : (flow_Preds.l1 k2 l0 (x3_2.set ((rd (rd_L3 l0 x13_1) x20_2) : Int).toNat y324) x13_1 l0 (l0.length : Int) x13_1 (rd_L3 l0 x13_1) ((rd_L3 l0 x13_1).length : Int) (wrap64 (x20_2 + 1))) = some r := by first | (rw [hy324]; with_reducible exact H) | (have H2_ := (Option.bind_some _ _).symm.trans H; rw [hy324]; with_reducible exact H2_) | (have H2_ := (Option.bind_some _ _).symm.trans H; with_reducible exact H2_) | with_reducible exact H | (rw [hy324]; exact H) | exact H
                      have Ny324 := Aside0.mk hy324
                      clear hy324
                      obtain ⟨y327, hy327⟩ : ∃ y_ : List (List Int), y_ = (x3_2.set ((rd (rd_L3 l0 x13_1) x20_2) : Int).toNat y324) := ⟨_, rfl⟩
                      replace H : (flow_Preds.l1 k2 l0 y327 x13_1 l0 (l0.length : Int) x13_1 (rd_L3 l0 x13_1) ((rd_L3 l0 x13_1).length : Int) (wrap64 (x20_2 + 1))) = some r := by first | (rw [hy327]; with_reducible exact H) | (have H2_ := (Option.bind_some _ _).symm.trans H; rw [hy327]; with_reducible exact H2_) | (have H2_ := (Option.bind_some _ _).symm.trans H; with_reducible exact H2_) | with_reducible exact H | (rw [hy327]; exact H) | exact H
                      have Ny327 := Aside0.mk hy327
                      clear hy327
                      have H' := Aside0.mk H
                      clear H
                      have p313 : 0 ≤ (x20_2 : Int) := of_decide_eq_true p10_0
                      have q313 : x20_2 < ((rd_L3 l0 x13_1).length : Int) := of_decide_eq_true p10_0
                      obtain ⟨ad313, e313, hx313_0⟩ := Kd.at_int HR312_0.out x20_2 p313 q313
                      cases e313
                      replace hx313_0 := (HB.out.cell (World.block_lt_of_cell? w _ hx313_0)).trans hx313_0
                      replace p313 := eq_true p313
                      replace q313 := eq_true q313
                      obtain ⟨Ao32, co32, eo32⟩ := Kd.S_slice HO_3.out
                      subst eo32
                      have p314 : 0 ≤ ((rd (rd_L3 l0 x13_1) x20_2) : Int) := of_decide_eq_true p10_0
                      have q314 : (rd (rd_L3 l0 x13_1) x20_2) < (x3_2.length : Int) := of_decide_eq_true p10_0
                      obtain ⟨ad314, A314_0, c314_0, e314, hx314_0, hl314_0, hi314_0⟩ := at_L3 (Kd.S_reads' HO_3.out).2.2 (rd (rd_L3 l0 x13_1) x20_2) p314 q314
                      cases e314
                      obtain ⟨ce314, hce314, hMe314, hcc314⟩ := Kd.S_get HO_3.out [] (rd (rd_L3 l0 x13_1) x20_2) p314 p10_9
                      obtain ⟨ve314_0, rfl, ge314_0⟩ := hMe314
                      have hv314_0 := hcc314 0 _ rfl
                      rw [Nat.add_zero, show ((Kd.slice 3 (Kd.int .i64))).sz = 1 from rfl, Nat.mul_one] at hv314_0
                      replace hv314_0 := Option.some.inj (hv314_0.symm.trans hx314_0)
                      rw [hv314_0] at ge314_0
                      have HL314_0 := Aside0.mk (show Kd.R (Kd.int .i64) 3 _ _ _ _ (rd_L3 x3_2 (rd (rd_L3 l0 x13_1) x20_2)) from ge314_0)
                      clear hv314_0 ge314_0
                      have HX314_0 := Aside0.mk hx314_0
                      clear hcc314 hce314
                      have HR314_0 := Aside0.mk hi314_0
                      have HC314_0 := Aside0.mk hl314_0
                      clear hi314_0 hl314_0
                      replace p314 := eq_true p314
                      replace q314 := eq_true q314
                      have p320 : 0 ≤ ((rd (rd_L3 l0 x13_1) x20_2) : Int) := of_decide_eq_true p10_0
                      have q320 : (rd (rd_L3 l0 x13_1) x20_2) < (x3_2.length : Int) := of_decide_eq_true p10_0
                      obtain ⟨ad320, A320_0, c320_0, e320, hx320_0, hl320_0, hi320_0⟩ := at_L3 (Kd.S_reads' HO_3.out).2.2 (rd (rd_L3 l0 x13_1) x20_2) p320 q320
                      obtain rfl : ad314 = ad320 := (by injection e320)
                      obtain ⟨ce320, hce320, hMe320, hcc320⟩ := Kd.S_get HO_3.out [] (rd (rd_L3 l0 x13_1) x20_2) p320 (by first | exact q320 | exact of_decide_eq_true p10_0 | (have e_ := (Kd.S_reads' HO_3.out).1; omega))
                      obtain ⟨ve320_0, rfl, ge320_0⟩ := hMe320
                      have hv320_0 := hcc320 0 _ rfl
                      rw [Nat.add_zero, show ((Kd.slice 3 (Kd.int .i64))).sz = 1 from rfl, Nat.mul_one] at hv320_0
                      replace hv320_0 := Option.some.inj (hv320_0.symm.trans hx320_0)
                      rw [hv320_0] at ge320_0
                      have HL320_0 := Aside0.mk (show Kd.R (Kd.int .i64) 3 _ _ _ _ (rd_L3 x3_2 (rd (rd_L3 l0 x13_1) x20_2)) from ge320_0)
                      clear hv320_0 ge320_0
                      have HX320_0 := Aside0.mk hx320_0
                      clear hcc320 hce320
                      have HR320_0 := Aside0.mk hi320_0
                      have HC320_0 := Aside0.mk hl320_0
                      clear hi320_0 hl320_0
                      replace p320 := eq_true p320
                      replace q320 := eq_true q320
                      have ea_ := Option.some.inj (hx314_0.symm.trans hx320_0)
                      injection ea_ with ea_ en_ ec_
                      subst ea_
                      subst ec_
                      clear en_
                      have p321 : 0 ≤ ((rd (rd_L3 l0 x13_1) x20_2) : Int) := of_decide_eq_true p10_0
                      have q321 : (rd (rd_L3 l0 x13_1) x20_2) < (x3_2.length : Int) := of_decide_eq_true p10_0
                      obtain ⟨ad321, A321_0, c321_0, e321, hx321_0, hl321_0, hi321_0⟩ := at_L3 (Kd.S_reads' HO_3.out).2.2 (rd (rd_L3 l0 x13_1) x20_2) p321 q321
                      obtain rfl : ad314 = ad321 := (by injection e321)
                      obtain ⟨ce321, hce321, hMe321, hcc321⟩ := Kd.S_get HO_3.out [] (rd (rd_L3 l0 x13_1) x20_2) p321 (by first | exact q321 | exact of_decide_eq_true p10_0 | (have e_ := (Kd.S_reads' HO_3.out).1; omega))
                      obtain ⟨ve321_0, rfl, ge321_0⟩ := hMe321
                      have hv321_0 := hcc321 0 _ rfl
                      rw [Nat.add_zero, show ((Kd.slice 3 (Kd.int .i64))).sz = 1 from rfl, Nat.mul_one] at hv321_0
                      replace hv321_0 := Option.some.inj (hv321_0.symm.trans hx321_0)
                      rw [hv321_0] at ge321_0
                      have HL321_0 := Aside0.mk (show Kd.R (Kd.int .i64) 3 _ _ _ _ (rd_L3 x3_2 (rd (rd_L3 l0 x13_1) x20_2)) from ge321_0)
                      clear hv321_0 ge321_0
                      have HX321_0 := Aside0.mk hx321_0
                      clear hcc321 hce321
                      have HR321_0 := Aside0.mk hi321_0
                      have HC321_0 := Aside0.mk hl321_0
                      clear hi321_0 hl321_0
                      replace p321 := eq_true p321
                      replace q321 := eq_true q321
                      have ea_ := Option.some.inj (hx314_0.symm.trans hx321_0)
                      injection ea_ with ea_ en_ ec_
                      subst ea_
                      subst ec_
                      clear en_
                      have p322 : 0 ≤ ((ji25) : Int) := of_decide_eq_true p10_0
                      have q322 : (ji25) < ((rd_L3 x3_2 (rd (rd_L3 l0 x13_1) x20_2)).length : Int) := of_decide_eq_true p10_0
                      obtain ⟨ad322, e322, hx322_0⟩ := Kd.at_int p10_8 (ji25) p322 q322
                      cases e322
                      replace p322 := eq_true p322
                      replace q322 := eq_true q322
                      have p323 : 0 ≤ ((rd (rd_L3 l0 x13_1) x20_2) : Int) := of_decide_eq_true p10_0
                      have q323 : (rd (rd_L3 l0 x13_1) x20_2) < (x3_2.length : Int) := of_decide_eq_true p10_0
                      obtain ⟨ad323, A323_0, c323_0, e323, hx323_0, hl323_0, hi323_0⟩ := at_L3 (Kd.S_reads' HO_3.out).2.2 (rd (rd_L3 l0 x13_1) x20_2) p323 q323
                      obtain rfl : ad314 = ad323 := (by injection e323)
                      obtain ⟨ce323, hce323, hMe323, hcc323⟩ := Kd.S_get HO_3.out [] (rd (rd_L3 l0 x13_1) x20_2) p323 (by first | exact q323 | exact of_decide_eq_true p10_0 | (have e_ := (Kd.S_reads' HO_3.out).1; omega))
                      obtain ⟨ve323_0, rfl, ge323_0⟩ := hMe323
                      have hv323_0 := hcc323 0 _ rfl
                      rw [Nat.add_zero, show ((Kd.slice 3 (Kd.int .i64))).sz = 1 from rfl, Nat.mul_one] at hv323_0
                      replace hv323_0 := Option.some.inj (hv323_0.symm.trans hx323_0)
                      rw [hv323_0] at ge323_0
                      have HL323_0 := Aside0.mk (show Kd.R (Kd.int .i64) 3 _ _ _ _ (rd_L3 x3_2 (rd (rd_L3 l0 x13_1) x20_2)) from ge323_0)
                      clear hv323_0 ge323_0
                      have HX323_0 := Aside0.mk hx323_0
                      clear hcc323 hce323
                      have HR323_0 := Aside0.mk hi323_0
                      have HC323_0 := Aside0.mk hl323_0
                      clear hi323_0 hl323_0
                      replace p323 := eq_true p323
                      replace q323 := eq_true q323
                      have ea_ := Option.some.inj (hx314_0.symm.trans hx323_0)
                      injection ea_ with ea_ en_ ec_
                      subst ea_
                      subst ec_
                      clear en_
                      obtain ⟨go33, co33, eo33, gb33, gl33, cl33, HG33⟩ := Kd.S_form HO_3.out (by have h_ : ((rd (rd_L3 l0 x13_1) x20_2) : Int) < ((x3_2.length : Int) : Int) := of_decide_eq_true p10_0; have h2_ : 0 ≤ ((rd (rd_L3 l0 x13_1) x20_2) : Int) := (of_decide_eq_true p10_0); omega)
                      (first | cases eo33 | (injection eo33 with ea_ en_ ec_; (first | subst ea_ | (injection ea_ with ea_; subst ea_)); subst ec_; clear en_))
                      have GB33 := Aside0.mk gb33
                      have GG33 := Aside0.mk HG33
                      clear gb33 gl33 HG33
                      (first | simp only [add_plain] at hx314_0 | skip)
                      (first | simp only [add_plain] at hx320_0 | skip)
                      (first | simp only [add_plain] at hx321_0 | skip)
                      (first | simp only [add_plain] at hx323_0 | skip)
                      obtain ⟨oki33, ce33, hcl33, hM33, hcc33, _, _, hH33⟩ := Kd.S_elem HO_3.out [] ((rd (rd_L3 l0 x13_1) x20_2) : Int) (of_decide_eq_true p10_0) (by have h_ : ((rd (rd_L3 l0 x13_1) x20_2) : Int) < ((x3_2.length : Int) : Int) := of_decide_eq_true p10_0; first | exact h_ | (have e_ := (Kd.S_reads' HO_3.out).1; omega) | simpa using h_)
                      obtain ⟨ve33_0, rfl, ge33_0⟩ := hM33
                      have hv33 := hcc33 0 _ rfl
                      have hX33 := HX323_0.out
                      (try simp only [add_plain] at hX33)
                      (try simp only [Nat.add_zero] at hv33)
                      (try rw [show ((Kd.slice 3 (Kd.int .i64))).sz = 1 from rfl, Nat.mul_one] at hv33)
                      replace hv33 := Option.some.inj (hv33.symm.trans hX33)
                      subst hv33
                      clear hX33 hcc33 hcl33
                      have UU33 := Aside0.mk (show Kd.R (Kd.int .i64) 3 _ w.heap.size oki33 (.slice (some ad322) (rd_L3 x3_2 (rd (rd_L3 l0 x13_1) x20_2)).length c314_0) (rd_L3 x3_2 (rd (rd_L3 l0 x13_1) x20_2)) from ge33_0)
                      have HH33 := Aside0.mk hH33
                      have HN33 := Aside0.mk (Kd.S_reads' HO_3.out).1
                      clear hH33 ge33_0
                      go_wp2_with (first | ((with_reducible refine gate_builtin (b := .append) (xs := #[.tmp 61, .tmp 63]) rfl ?_); (try (refine gate_guard (by rfl) ?_; dsimp only)); at_builtin; refine Kd.R_append (Kd.int .i64) (w0 := w) w.heap.size rfl (.tmp 61) (.tmp 63) 27 3 (.int .i64 0) 8 rfl Try.underlying27 info3 rfl (by decide) (by omega) (.slice (some ad322) (rd_L3 x3_2 (rd (rd_L3 l0 x13_1) x20_2)).length c314_0) (rd_L3 x3_2 (rd (rd_L3 l0 x13_1) x20_2)) x13_1 [.int .i64 x13_1] (fun k_ => oki33 k_ ∨ ((fun _ => True)) k_ ∧ wr.heap.size ≤ k_) (fun _ => False) rfl rfl ?aP (fun _ hk => hk.elim) ?aF ?aO ?aB ?aS ?aL ?_; (case aP => exact rfl); (case aB => exact p10_1); (case aF => exact (fun k_ hk => .inr ⟨trivial, hk⟩)); (case aO => exact p10_5); (case aS => exact (below_size p10_1)); (case aL => have := LMc30.out; omega); intro v325 w34 ho hb hg hat; rw [← Ny324.out] at ho; have n0_ := Aside0.mk (hb); have n1_ := Aside0.mk (Kd.H_grown (Kd.H_widen p10_7) hg (fun k_ e_ => .inl (UU33.out.1 k_ e_))); have n2_ := Aside0.mk (ho); clear HB; clear HH33; clear HO_3; clear UU33; clear HL314_0; clear HL320_0; clear HL321_0; clear HL323_0; have HB := n0_; have HH33 := n1_; have HO326 := n2_; clear n0_ n1_ n2_; clear ho hb hg hat; have p31 : 0 ≤ ((rd (rd_L3 l0 x13_1) x20_2) : Int) := of_decide_eq_true p10_0; have q31 : ((rd (rd_L3 l0 x13_1) x20_2) : Int) < ((x3_2.length : Int) : Int) := of_decide_eq_true p10_0; replace p31 := eq_true p31; replace q31 := eq_true q31; obtain ⟨Ao37, co37, eo37⟩ := Kd.R_slice HO326.out; subst eo37; obtain ⟨_, _, hraw35, _, _, hcc35, _⟩ := Kd.H_raw HH33.out (of_decide_eq_true p10_0) (by have h_ : ((rd (rd_L3 l0 x13_1) x20_2) : Int) < ((x3_2.length : Int) : Int) := of_decide_eq_true p10_0; first | exact h_ | (have e_ := (HN33.out); omega) | simpa using h_); obtain ⟨_, hfr35⟩ := Kd.H_at HH33.out (of_decide_eq_true p10_0) (by have h_ : ((rd (rd_L3 l0 x13_1) x20_2) : Int) < ((x3_2.length : Int) : Int) := of_decide_eq_true p10_0; first | exact h_ | (have e_ := (HN33.out); omega) | simpa using h_); have hx35_0 := hcc35 0 _ rfl; have hf35_0 := hfr35 0; (try simp only [Nat.add_zero] at hx35_0 hf35_0); (try rw [show ((Kd.slice 3 (Kd.int .i64))).sz = 1 from rfl, Nat.mul_one] at hx35_0); (try rw [show ((Kd.slice 3 (Kd.int .i64))).sz = 1 from rfl, Nat.mul_one] at hf35_0); have HP35 := Kd.S_seg0 HH33.out (of_decide_eq_true p10_0) (by have h_ : ((rd (rd_L3 l0 x13_1) x20_2) : Int) < ((x3_2.length : Int) : Int) := of_decide_eq_true p10_0; first | exact h_ | (have e_ := (HN33.out); omega) | simpa using h_) (seg := [.slice Ao37 y324.length co37]) (j := 0) (show 1 ≤ 1 from by decide) (x' := y324) (Kd.M_row HO326.out) (fun _ hk => hk); (try simp only [show ((Kd.slice 3 (Kd.int .i64))).sz = 1 from rfl, Nat.mul_one, Nat.add_zero] at HP35); clear hcc35 hfr35) | ((with_reducible refine gate_store (t := 27) (p := 65) rfl ?_); (try (rw [drewN_self w34]; generalize hq_ : World.drewN w34 _ = w34; have n0_ := Aside0.mk (Kd.S_at hq_ HO_3.out); have n1_ := Aside0.mk (below_at hq_ HB.out); clear hq_ HO_3 HB; have HO_3 := n0_; have HB := n1_; clear n0_ n1_; (try (obtain ⟨Ao37, co37, eo37⟩ := Kd.R_slice HO326.out)); (try (subst eo37)); (try (obtain ⟨_, _, hraw35, _, _, hcc35, _⟩ := Kd.H_raw HH33.out (of_decide_eq_true p10_0) (by have h_ : ((rd (rd_L3 l0 x13_1) x20_2) : Int) < ((x3_2.length : Int) : Int) := of_decide_eq_true p10_0; first | exact h_ | (have e_ := (HN33.out); omega) | simpa using h_))); (try (obtain ⟨_, hfr35⟩ := Kd.H_at HH33.out (of_decide_eq_true p10_0) (by have h_ : ((rd (rd_L3 l0 x13_1) x20_2) : Int) < ((x3_2.length : Int) : Int) := of_decide_eq_true p10_0; first | exact h_ | (have e_ := (HN33.out); omega) | simpa using h_))); (try (have hx35_0 := hcc35 0 _ rfl)); (try (have hf35_0 := hfr35 0)); (try (try simp only [Nat.add_zero] at hx35_0 hf35_0)); (try (try rw [show ((Kd.slice 3 (Kd.int .i64))).sz = 1 from rfl, Nat.mul_one] at hx35_0)); (try (try rw [show ((Kd.slice 3 (Kd.int .i64))).sz = 1 from rfl, Nat.mul_one] at hf35_0)); (try (have HP35 := Kd.S_seg0 HH33.out (of_decide_eq_true p10_0) (by have h_ : ((rd (rd_L3 l0 x13_1) x20_2) : Int) < ((x3_2.length : Int) : Int) := of_decide_eq_true p10_0; first | exact h_ | (have e_ := (HN33.out); omega) | simpa using h_) (seg := [.slice Ao37 y324.length co37]) (j := 0) (show 1 ≤ 1 from by decide) (x' := y324) (Kd.M_row HO326.out) (fun _ hk => hk))); (try (try simp only [show ((Kd.slice 3 (Kd.int .i64))).sz = 1 from rfl, Nat.mul_one, Nat.add_zero] at HP35)); (try (clear hcc35 hfr35)))); refine store_event (t := 27) (p := 65) (v := ?vo_w36) (w1 := (w34.setCell ⟨go33, ((rd (rd_L3 l0 x13_1) x20_2) : Int).toNat, none⟩ (.slice Ao37 y324.length co37))) ?hg ?ho ?hn ?hr ?_; (case ho => rfl); (case hg => rfl); (case hn => rfl); (case hr => first | (go_simp; done) | (go_simp; rfl)); intro w36 hw; have hg : w34.grownBy w36 (some go33) := (by rw [hw]; exact HP35.2); have hp_ : Kd.S (Kd.slice 3 (Kd.int .i64)) 27 w36 w.heap.size (fun _ => True) (.slice (some ⟨go33, 0, none⟩) x3_2.length co32) y327 := (by rw [hw, Ny327.out]; exact HP35.1); clear HP35; have n0_ := Aside0.mk ((by rw [hw]; exact below_set HB.out GB33.out : Below w.heap.size w w36)); have n1_ := Aside0.mk (hp_); clear HB; clear HO326; clear HH33; have HB := n0_; have HO_3 := n1_; clear n0_ n1_; clear hg hw hp_ hraw35))
                      repeat (go_quiet (first | ((with_reducible refine gate_builtin (b := .append) (xs := #[.tmp 61, .tmp 63]) rfl ?_); (try (refine gate_guard (by rfl) ?_; dsimp only)); at_builtin; refine Kd.R_append (Kd.int .i64) (w0 := w) w.heap.size rfl (.tmp 61) (.tmp 63) 27 3 (.int .i64 0) 8 rfl Try.underlying27 info3 rfl (by decide) (by omega) (.slice (some ad322) (rd_L3 x3_2 (rd (rd_L3 l0 x13_1) x20_2)).length c314_0) (rd_L3 x3_2 (rd (rd_L3 l0 x13_1) x20_2)) x13_1 [.int .i64 x13_1] (fun k_ => oki33 k_ ∨ ((fun _ => True)) k_ ∧ wr.heap.size ≤ k_) (fun _ => False) rfl rfl ?aP (fun _ hk => hk.elim) ?aF ?aO ?aB ?aS ?aL ?_; (case aP => exact rfl); (case aB => exact p10_1); (case aF => exact (fun k_ hk => .inr ⟨trivial, hk⟩)); (case aO => exact p10_5); (case aS => exact (below_size p10_1)); (case aL => have := LMc30.out; omega); intro v325 w34 ho hb hg hat; rw [← Ny324.out] at ho; have n0_ := Aside0.mk (hb); have n1_ := Aside0.mk (Kd.H_grown (Kd.H_widen p10_7) hg (fun k_ e_ => .inl (UU33.out.1 k_ e_))); have n2_ := Aside0.mk (ho); clear HB; clear HH33; clear HO_3; clear UU33; clear HL314_0; clear HL320_0; clear HL321_0; clear HL323_0; have HB := n0_; have HH33 := n1_; have HO326 := n2_; clear n0_ n1_ n2_; clear ho hb hg hat; have p31 : 0 ≤ ((rd (rd_L3 l0 x13_1) x20_2) : Int) := of_decide_eq_true p10_0; have q31 : ((rd (rd_L3 l0 x13_1) x20_2) : Int) < ((x3_2.length : Int) : Int) := of_decide_eq_true p10_0; replace p31 := eq_true p31; replace q31 := eq_true q31; obtain ⟨Ao37, co37, eo37⟩ := Kd.R_slice HO326.out; subst eo37; obtain ⟨_, _, hraw35, _, _, hcc35, _⟩ := Kd.H_raw HH33.out (of_decide_eq_true p10_0) (by have h_ : ((rd (rd_L3 l0 x13_1) x20_2) : Int) < ((x3_2.length : Int) : Int) := of_decide_eq_true p10_0; first | exact h_ | (have e_ := (HN33.out); omega) | simpa using h_); obtain ⟨_, hfr35⟩ := Kd.H_at HH33.out (of_decide_eq_true p10_0) (by have h_ : ((rd (rd_L3 l0 x13_1) x20_2) : Int) < ((x3_2.length : Int) : Int) := of_decide_eq_true p10_0; first | exact h_ | (have e_ := (HN33.out); omega) | simpa using h_); have hx35_0 := hcc35 0 _ rfl; have hf35_0 := hfr35 0; (try simp only [Nat.add_zero] at hx35_0 hf35_0); (try rw [show ((Kd.slice 3 (Kd.int .i64))).sz = 1 from rfl, Nat.mul_one] at hx35_0); (try rw [show ((Kd.slice 3 (Kd.int .i64))).sz = 1 from rfl, Nat.mul_one] at hf35_0); have HP35 := Kd.S_seg0 HH33.out (of_decide_eq_true p10_0) (by have h_ : ((rd (rd_L3 l0 x13_1) x20_2) : Int) < ((x3_2.length : Int) : Int) := of_decide_eq_true p10_0; first | exact h_ | (have e_ := (HN33.out); omega) | simpa using h_) (seg := [.slice Ao37 y324.length co37]) (j := 0) (show 1 ≤ 1 from by decide) (x' := y324) (Kd.M_row HO326.out) (fun _ hk => hk); (try simp only [show ((Kd.slice 3 (Kd.int .i64))).sz = 1 from rfl, Nat.mul_one, Nat.add_zero] at HP35); clear hcc35 hfr35) | ((with_reducible refine gate_store (t := 27) (p := 65) rfl ?_); (try (rw [drewN_self w34]; generalize hq_ : World.drewN w34 _ = w34; have n0_ := Aside0.mk (Kd.S_at hq_ HO_3.out); have n1_ := Aside0.mk (below_at hq_ HB.out); clear hq_ HO_3 HB; have HO_3 := n0_; have HB := n1_; clear n0_ n1_; (try (obtain ⟨Ao37, co37, eo37⟩ := Kd.R_slice HO326.out)); (try (subst eo37)); (try (obtain ⟨_, _, hraw35, _, _, hcc35, _⟩ := Kd.H_raw HH33.out (of_decide_eq_true p10_0) (by have h_ : ((rd (rd_L3 l0 x13_1) x20_2) : Int) < ((x3_2.length : Int) : Int) := of_decide_eq_true p10_0; first | exact h_ | (have e_ := (HN33.out); omega) | simpa using h_))); (try (obtain ⟨_, hfr35⟩ := Kd.H_at HH33.out (of_decide_eq_true p10_0) (by have h_ : ((rd (rd_L3 l0 x13_1) x20_2) : Int) < ((x3_2.length : Int) : Int) := of_decide_eq_true p10_0; first | exact h_ | (have e_ := (HN33.out); omega) | simpa using h_))); (try (have hx35_0 := hcc35 0 _ rfl)); (try (have hf35_0 := hfr35 0)); (try (try simp only [Nat.add_zero] at hx35_0 hf35_0)); (try (try rw [show ((Kd.slice 3 (Kd.int .i64))).sz = 1 from rfl, Nat.mul_one] at hx35_0)); (try (try rw [show ((Kd.slice 3 (Kd.int .i64))).sz = 1 from rfl, Nat.mul_one] at hf35_0)); (try (have HP35 := Kd.S_seg0 HH33.out (of_decide_eq_true p10_0) (by have h_ : ((rd (rd_L3 l0 x13_1) x20_2) : Int) < ((x3_2.length : Int) : Int) := of_decide_eq_true p10_0; first | exact h_ | (have e_ := (HN33.out); omega) | simpa using h_) (seg := [.slice Ao37 y324.length co37]) (j := 0) (show 1 ≤ 1 from by decide) (x' := y324) (Kd.M_row HO326.out) (fun _ hk => hk))); (try (try simp only [show ((Kd.slice 3 (Kd.int .i64))).sz = 1 from rfl, Nat.mul_one, Nat.add_zero] at HP35)); (try (clear hcc35 hfr35)))); refine store_event (t := 27) (p := 65) (v := ?vo_w36) (w1 := (w34.setCell ⟨go33, ((rd (rd_L3 l0 x13_1) x20_2) : Int).toNat, none⟩ (.slice Ao37 y324.length co37))) ?hg ?ho ?hn ?hr ?_; (case ho => rfl); (case hg => rfl); (case hn => rfl); (case hr => first | (go_simp; done) | (go_simp; rfl)); intro w36 hw; have hg : w34.grownBy w36 (some go33) := (by rw [hw]; exact HP35.2); have hp_ : Kd.S (Kd.slice 3 (Kd.int .i64)) 27 w36 w.heap.size (fun _ => True) (.slice (some ⟨go33, 0, none⟩) x3_2.length co32) y327 := (by rw [hw, Ny327.out]; exact HP35.1); clear HP35; have n0_ := Aside0.mk ((by rw [hw]; exact below_set HB.out GB33.out : Below w.heap.size w w36)); have n1_ := Aside0.mk (hp_); clear HB; clear HO326; clear HH33; have HB := n0_; have HO_3 := n1_; clear n0_ n1_; clear hg hw hp_ hraw35)); try go_wp2_with (first | ((with_reducible refine gate_builtin (b := .append) (xs := #[.tmp 61, .tmp 63]) rfl ?_); (try (refine gate_guard (by rfl) ?_; dsimp only)); at_builtin; refine Kd.R_append (Kd.int .i64) (w0 := w) w.heap.size rfl (.tmp 61) (.tmp 63) 27 3 (.int .i64 0) 8 rfl Try.underlying27 info3 rfl (by decide) (by omega) (.slice (some ad322) (rd_L3 x3_2 (rd (rd_L3 l0 x13_1) x20_2)).length c314_0) (rd_L3 x3_2 (rd (rd_L3 l0 x13_1) x20_2)) x13_1 [.int .i64 x13_1] (fun k_ => oki33 k_ ∨ ((fun _ => True)) k_ ∧ wr.heap.size ≤ k_) (fun _ => False) rfl rfl ?aP (fun _ hk => hk.elim) ?aF ?aO ?aB ?aS ?aL ?_; (case aP => exact rfl); (case aB => exact p10_1); (case aF => exact (fun k_ hk => .inr ⟨trivial, hk⟩)); (case aO => exact p10_5); (case aS => exact (below_size p10_1)); (case aL => have := LMc30.out; omega); intro v325 w34 ho hb hg hat; rw [← Ny324.out] at ho; have n0_ := Aside0.mk (hb); have n1_ := Aside0.mk (Kd.H_grown (Kd.H_widen p10_7) hg (fun k_ e_ => .inl (UU33.out.1 k_ e_))); have n2_ := Aside0.mk (ho); clear HB; clear HH33; clear HO_3; clear UU33; clear HL314_0; clear HL320_0; clear HL321_0; clear HL323_0; have HB := n0_; have HH33 := n1_; have HO326 := n2_; clear n0_ n1_ n2_; clear ho hb hg hat; have p31 : 0 ≤ ((rd (rd_L3 l0 x13_1) x20_2) : Int) := of_decide_eq_true p10_0; have q31 : ((rd (rd_L3 l0 x13_1) x20_2) : Int) < ((x3_2.length : Int) : Int) := of_decide_eq_true p10_0; replace p31 := eq_true p31; replace q31 := eq_true q31; obtain ⟨Ao37, co37, eo37⟩ := Kd.R_slice HO326.out; subst eo37; obtain ⟨_, _, hraw35, _, _, hcc35, _⟩ := Kd.H_raw HH33.out (of_decide_eq_true p10_0) (by have h_ : ((rd (rd_L3 l0 x13_1) x20_2) : Int) < ((x3_2.length : Int) : Int) := of_decide_eq_true p10_0; first | exact h_ | (have e_ := (HN33.out); omega) | simpa using h_); obtain ⟨_, hfr35⟩ := Kd.H_at HH33.out (of_decide_eq_true p10_0) (by have h_ : ((rd (rd_L3 l0 x13_1) x20_2) : Int) < ((x3_2.length : Int) : Int) := of_decide_eq_true p10_0; first | exact h_ | (have e_ := (HN33.out); omega) | simpa using h_); have hx35_0 := hcc35 0 _ rfl; have hf35_0 := hfr35 0; (try simp only [Nat.add_zero] at hx35_0 hf35_0); (try rw [show ((Kd.slice 3 (Kd.int .i64))).sz = 1 from rfl, Nat.mul_one] at hx35_0); (try rw [show ((Kd.slice 3 (Kd.int .i64))).sz = 1 from rfl, Nat.mul_one] at hf35_0); have HP35 := Kd.S_seg0 HH33.out (of_decide_eq_true p10_0) (by have h_ : ((rd (rd_L3 l0 x13_1) x20_2) : Int) < ((x3_2.length : Int) : Int) := of_decide_eq_true p10_0; first | exact h_ | (have e_ := (HN33.out); omega) | simpa using h_) (seg := [.slice Ao37 y324.length co37]) (j := 0) (show 1 ≤ 1 from by decide) (x' := y324) (Kd.M_row HO326.out) (fun _ hk => hk); (try simp only [show ((Kd.slice 3 (Kd.int .i64))).sz = 1 from rfl, Nat.mul_one, Nat.add_zero] at HP35); clear hcc35 hfr35) | ((with_reducible refine gate_store (t := 27) (p := 65) rfl ?_); (try (rw [drewN_self w34]; generalize hq_ : World.drewN w34 _ = w34; have n0_ := Aside0.mk (Kd.S_at hq_ HO_3.out); have n1_ := Aside0.mk (below_at hq_ HB.out); clear hq_ HO_3 HB; have HO_3 := n0_; have HB := n1_; clear n0_ n1_; (try (obtain ⟨Ao37, co37, eo37⟩ := Kd.R_slice HO326.out)); (try (subst eo37)); (try (obtain ⟨_, _, hraw35, _, _, hcc35, _⟩ := Kd.H_raw HH33.out (of_decide_eq_true p10_0) (by have h_ : ((rd (rd_L3 l0 x13_1) x20_2) : Int) < ((x3_2.length : Int) : Int) := of_decide_eq_true p10_0; first | exact h_ | (have e_ := (HN33.out); omega) | simpa using h_))); (try (obtain ⟨_, hfr35⟩ := Kd.H_at HH33.out (of_decide_eq_true p10_0) (by have h_ : ((rd (rd_L3 l0 x13_1) x20_2) : Int) < ((x3_2.length : Int) : Int) := of_decide_eq_true p10_0; first | exact h_ | (have e_ := (HN33.out); omega) | simpa using h_))); (try (have hx35_0 := hcc35 0 _ rfl)); (try (have hf35_0 := hfr35 0)); (try (try simp only [Nat.add_zero] at hx35_0 hf35_0)); (try (try rw [show ((Kd.slice 3 (Kd.int .i64))).sz = 1 from rfl, Nat.mul_one] at hx35_0)); (try (try rw [show ((Kd.slice 3 (Kd.int .i64))).sz = 1 from rfl, Nat.mul_one] at hf35_0)); (try (have HP35 := Kd.S_seg0 HH33.out (of_decide_eq_true p10_0) (by have h_ : ((rd (rd_L3 l0 x13_1) x20_2) : Int) < ((x3_2.length : Int) : Int) := of_decide_eq_true p10_0; first | exact h_ | (have e_ := (HN33.out); omega) | simpa using h_) (seg := [.slice Ao37 y324.length co37]) (j := 0) (show 1 ≤ 1 from by decide) (x' := y324) (Kd.M_row HO326.out) (fun _ hk => hk))); (try (try simp only [show ((Kd.slice 3 (Kd.int .i64))).sz = 1 from rfl, Nat.mul_one, Nat.add_zero] at HP35)); (try (clear hcc35 hfr35)))); refine store_event (t := 27) (p := 65) (v := ?vo_w36) (w1 := (w34.setCell ⟨go33, ((rd (rd_L3 l0 x13_1) x20_2) : Int).toNat, none⟩ (.slice Ao37 y324.length co37))) ?hg ?ho ?hn ?hr ?_; (case ho => rfl); (case hg => rfl); (case hn => rfl); (case hr => first | (go_simp; done) | (go_simp; rfl)); intro w36 hw; have hg : w34.grownBy w36 (some go33) := (by rw [hw]; exact HP35.2); have hp_ : Kd.S (Kd.slice 3 (Kd.int .i64)) 27 w36 w.heap.size (fun _ => True) (.slice (some ⟨go33, 0, none⟩) x3_2.length co32) y327 := (by rw [hw, Ny327.out]; exact HP35.1); clear HP35; have n0_ := Aside0.mk ((by rw [hw]; exact below_set HB.out GB33.out : Below w.heap.size w w36)); have n1_ := Aside0.mk (hp_); clear HB; clear HO326; clear HH33; have HB := n0_; have HO_3 := n1_; clear n0_ n1_; clear hg hw hp_ hraw35)))
                      go_roundg k2
                      case measure => have := HK1.out; have := HK2.out; omega
                      case rel => exact ⟨(y327), (wrap64 (x20_2 + 1)), p10_3, H', ⟨by have := HK1.out; have := HK2.out; omega⟩, ⟨by (with_reducible repeat (first | apply Kd.S_alloc | apply Kd.S_drewN | apply Kd.S_drew)); exact HO_3.out⟩, ⟨by repeat (first | (with_reducible first | exact HB.out | apply below_alloc | apply pw_below_drewN | apply below_drew1) | exact HB.out)⟩⟩
                     ·
                      rw [if_neg c30] at H
                      exact absurd H (by simp)
                   ·
                    rw [if_neg c27] at H
                    exact absurd H (by simp)
                  ·
                   rw [if_neg c26] at H
                   exact absurd H (by simp)
                ·
                 rw [if_neg c15] at H
                 exact absurd H (by simp)
               ·
                rw [if_neg c14] at H
                exact absurd H (by simp)
              ·
               rw [if_neg c13] at H
               have c13b0 : decide ((rd (rd_L3 l0 x13_1) x20_2) < (l0.length : Int)) = false := decide_eq_false c13
               clear c13
               have H' := Aside0.mk H
               clear H
               have p313 : 0 ≤ (x20_2 : Int) := of_decide_eq_true p10_0
               have q313 : x20_2 < ((rd_L3 l0 x13_1).length : Int) := of_decide_eq_true p10_0
               obtain ⟨ad313, e313, hx313_0⟩ := Kd.at_int HR312_0.out x20_2 p313 q313
               cases e313
               replace hx313_0 := (HB.out.cell (World.block_lt_of_cell? w _ hx313_0)).trans hx313_0
               replace p313 := eq_true p313
               replace q313 := eq_true q313
               go_wp2
               repeat (go_quiet (fail); try go_wp2)
               go_roundg k2
               case measure => have := HK1.out; have := HK2.out; omega
               case rel => exact ⟨(x3_2), (wrap64 (x20_2 + 1)), p10_3, H', ⟨by have := HK1.out; have := HK2.out; omega⟩, ⟨by (with_reducible repeat (first | apply Kd.S_alloc | apply Kd.S_drewN | apply Kd.S_drew)); exact HO_3.out⟩, ⟨by repeat (first | (with_reducible first | exact HB.out | apply below_alloc | apply pw_below_drewN | apply below_drew1) | exact HB.out)⟩⟩
             ·
              rw [if_neg c12] at H
              have c12b0 : decide (0 ≤ (rd (rd_L3 l0 x13_1) x20_2)) = false := decide_eq_false c12
              clear c12
              have H' := Aside0.mk H
              clear H
              have p313 : 0 ≤ (x20_2 : Int) := of_decide_eq_true p10_0
              have q313 : x20_2 < ((rd_L3 l0 x13_1).length : Int) := of_decide_eq_true p10_0
              obtain ⟨ad313, e313, hx313_0⟩ := Kd.at_int HR312_0.out x20_2 p313 q313
              cases e313
              replace hx313_0 := (HB.out.cell (World.block_lt_of_cell? w _ hx313_0)).trans hx313_0
              replace p313 := eq_true p313
              replace q313 := eq_true q313
              go_wp2
              repeat (go_quiet (fail); try go_wp2)
              go_roundg k2
              case measure => have := HK1.out; have := HK2.out; omega
              case rel => exact ⟨(x3_2), (wrap64 (x20_2 + 1)), p10_3, H', ⟨by have := HK1.out; have := HK2.out; omega⟩, ⟨by (with_reducible repeat (first | apply Kd.S_alloc | apply Kd.S_drewN | apply Kd.S_drew)); exact HO_3.out⟩, ⟨by repeat (first | (with_reducible first | exact HB.out | apply below_alloc | apply pw_below_drewN | apply below_drew1) | exact HB.out)⟩⟩
            ·
             rw [if_neg c11] at H
             exact absurd H (by simp)
           ·
            rw [if_neg c10] at H
            exact absurd H (by simp)
          ·
           rw [if_neg c9] at H
           have c9b0 : decide (x20_2 < ((rd_L3 l0 x13_1).length : Int)) = false := decide_eq_false c9
           clear c9
           have H' := Aside0.mk H
           clear H
           go_wp2
           repeat (go_quiet (fail); try go_wp2)
           go_roundg k2
           case measure => have := HK1.out; have := HK2.out; omega
           case rel => exact ⟨(x3_2), (wrap64 (x13_1 + 1)), p10_3, H', ⟨by have := HK1.out; have := HK2.out; omega⟩, ⟨by (with_reducible repeat (first | apply Kd.S_alloc | apply Kd.S_drewN | apply Kd.S_drew)); exact HO_3.out⟩, ⟨by repeat (first | (with_reducible first | exact HB.out | apply below_alloc | apply pw_below_drewN | apply below_drew1) | exact HB.out)⟩⟩
       ·
        rw [if_neg c8] at H
        exact absurd H (by simp)
      ·
       rw [if_neg c7] at H
       exact absurd H (by simp)
     ·
      rw [if_neg c6] at H
      have c6b0 : decide (x13_1 < (l0.length : Int)) = false := decide_eq_false c6
      clear c6
      obtain rfl := Option.some.inj H
      go_wp2
      repeat (go_quiet (fail); try go_wp2)
      go_ret
      exact ⟨_, by first | rfl | (simp [errW_none, errW_some] <;> rfl) | (simp [*, errW_none, errW_some] <;> rfl), by (with_reducible repeat (first | apply Kd.S_alloc | apply Kd.S_drewN | apply Kd.S_drew)); exact HO_3.out, by repeat (first | (with_reducible first | exact HB.out | apply below_alloc | apply pw_below_drewN | apply below_drew1) | exact HB.out)⟩
  ·
   rw [if_neg c3] at H
   exact absurd H (by simp)
 ·
  rw [if_neg c2] at H
  exact absurd H (by simp)

/-! ### ladderbackref30_Has: function 18 -/
def ladderbackref30_Has.l0 : Nat → List Int → Int → Int → Option (Bool)
 | 0, _, _, _ => none
 | k + 1, x0, x1, x5 => if x5 < (x0.length : Int) then (if 0 ≤ x5 then (if (rd x0 x5) = x1 then (some true) else (ladderbackref30_Has.l0 k x0 x1 (wrap64 (x5 + 1)))) else (none)) else (some false)
def ladderbackref30_Has.f (k : Nat) (l0 : List Int) (a1 : Int) : Option (Bool) := ladderbackref30_Has.l0 k l0 a1 0
theorem ladderbackref30_Has.mono_l : ∀ k, (∀ y0 y1 y2, LeO (ladderbackref30_Has.l0 k y0 y1 y2) (ladderbackref30_Has.l0 (k + 1) y0 y1 y2))
 | 0 => fun _ _ _ r h => by simp [ladderbackref30_Has.l0] at h
 | k + 1 => by
  have ih0 := ladderbackref30_Has.mono_l k
  ·
   intro y0 y1 y2
   unfold ladderbackref30_Has.l0
   repeat' first
   | (with_reducible exact ih0 _ _ _)
   | (with_reducible exact LeO.refl _)
   | (with_reducible exact LeO.none _)
   | (with_reducible refine LeO.ite ?_ ?_)
   | (with_reducible refine LeO.bind ?_ (fun _ => ?_))
   | exact ih0 _ _ _
   | exact LeO.none _
   | refine LeO.ite ?_ ?_
   | refine LeO.bind ?_ (fun _ => ?_)
theorem ladderbackref30_Has.mono : ∀ a0 a1 k, LeO (ladderbackref30_Has.f k a0 a1) (ladderbackref30_Has.f (k + 1) a0 a1) := by
 intro a0 a1 k
 have ih0 := ladderbackref30_Has.mono_l k
 unfold ladderbackref30_Has.f
 repeat' first
   | (with_reducible exact ih0 _ _ _)
   | (with_reducible exact LeO.refl _)
   | (with_reducible exact LeO.none _)
   | (with_reducible refine LeO.ite ?_ ?_)
   | (with_reducible refine LeO.bind ?_ (fun _ => ?_))
   | exact ih0 _ _ _
   | exact LeO.none _
   | refine LeO.ite ?_ ?_
   | refine LeO.bind ?_ (fun _ => ?_)
set_option maxHeartbeats 8000000 in
set_option maxRecDepth 100000 in
theorem ladderbackref30_Has.calls (k : Nat) (A0 : Option Addr) (c0 : Nat) (l0 : List Int) (a1 : Int) (r : Bool) (w : World) (hr0 : Kd.C (Kd.int .i64) w A0 l0.length l0) (hc0 : l0.length ≤ c0) (h : ladderbackref30_Has.f k l0 a1 = some r) :
  Calls Try.prog 18 #[.slice A0 l0.length c0, .int .i64 a1] w fun e w' => e = .returned (.bool r) ∧ Drawn0 w w' := by
 have HR0 := Aside0.mk hr0
 have HC0 := Aside0.mk hc0
 clear hr0 hc0
 have H : (ladderbackref30_Has.l0 k l0 a1 0) = some r := h
 clear h
 have H' := Aside0.mk H
 clear H
 go_enter Try.func18, Try.ntmps18
 go_wp2
 go_loopg [5] k (fun kq v5 w' => ∃ (x5_1 : Int), v5 = .int .i64 x5_1 ∧ Aside0 (ladderbackref30_Has.l0 kq l0 a1 x5_1 = some r) ∧ Aside0 (kq ≤ k) ∧ Drawn0 w w')
 case atStart => exact ⟨(0), p10_3, H', ⟨Nat.le_refl _⟩, by repeat (first | exact Drawn0.refl _ | apply Drawn0.step)⟩
 case round =>
  clear H'
  obtain ⟨x5_1, rfl, HA, HK1, ⟨m1, rfl⟩⟩ := hrel
  cases gk with
  | zero => exact absurd HA.out (by simp [ladderbackref30_Has.l0])
  | succ k1 =>
   have H := HA.out
   clear HA
   simp only [ladderbackref30_Has.l0] at H
   by_cases c3 : x5_1 < (l0.length : Int)
   ·
    rw [if_pos c3] at H
    have c3b0 : decide (x5_1 < (l0.length : Int)) = true := decide_eq_true c3
    clear c3
    by_cases c4 : 0 ≤ x5_1
    ·
     rw [if_pos c4] at H
     have c4b0 : decide (0 ≤ x5_1) = true := decide_eq_true c4
     clear c4
     by_cases c5 : (rd l0 x5_1) = a1
     ·
      rw [if_pos c5] at H
      have c5b0 : ((rd l0 x5_1) == a1) = true := beq_iff_eq.mpr c5
      have c5b1 : ((rd l0 x5_1) != a1) = false := bne_eq_false_iff_eq.mpr c5
      clear c5
      obtain rfl := Option.some.inj H
      have p328 : 0 ≤ (x5_1 : Int) := of_decide_eq_true p10_0
      have q328 : x5_1 < (l0.length : Int) := of_decide_eq_true p10_0
      obtain ⟨ad328, e328, hx328_0⟩ := Kd.at_int HR0.out x5_1 p328 q328
      cases e328
      replace p328 := eq_true p328
      replace q328 := eq_true q328
      go_wp2
      go_ret
      exact ⟨by first | rfl | (simp; done) | (simp [*]; done), by repeat (first | exact Drawn0.refl _ | apply Drawn0.step)⟩
     ·
      rw [if_neg c5] at H
      have c5b0 : ((rd l0 x5_1) == a1) = false := beq_eq_false_iff_ne.mpr c5
      have c5b1 : ((rd l0 x5_1) != a1) = true := bne_iff_ne.mpr c5
      have H' := Aside0.mk H
      clear H
      have p328 : 0 ≤ (x5_1 : Int) := of_decide_eq_true p10_0
      have q328 : x5_1 < (l0.length : Int) := of_decide_eq_true p10_0
      obtain ⟨ad328, e328, hx328_0⟩ := Kd.at_int HR0.out x5_1 p328 q328
      cases e328
      replace p328 := eq_true p328
      replace q328 := eq_true q328
      go_wp2
      go_roundg k1
      case measure => have := HK1.out; omega
      case rel => exact ⟨(wrap64 (x5_1 + 1)), p10_3, H', ⟨by have := HK1.out; omega⟩, by repeat (first | exact Drawn0.refl _ | apply Drawn0.step)⟩
    ·
     rw [if_neg c4] at H
     exact absurd H (by simp)
   ·
    rw [if_neg c3] at H
    have c3b0 : decide (x5_1 < (l0.length : Int)) = false := decide_eq_false c3
    clear c3
    obtain rfl := Option.some.inj H
    go_wp2
    go_ret
    exact ⟨by first | rfl | (simp; done) | (simp [*]; done), by repeat (first | exact Drawn0.refl _ | apply Drawn0.step)⟩

end Go.Proofs.Ytfiffhcpgojkhaa.QFlowBlocks
