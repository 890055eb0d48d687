-- Printed by a program of this session's over the kit's printer (wip/patch_print.py).
import Derived.Test.YthldpihpjekleaaStoreM
import Derived.Test.YthldpihpjekleaaQCountHoldsx0
import Derived.Test.YthldpihpjekleaaQCountHoldsx1
namespace Go.Proofs.Ythldpihpjekleaa.QCountHolds
open Go.RowKit Go.Proofs.Ythldpihpjekleaa Go.Proofs.YthldpihpjekleaaW.PrintWords Go.Proofs.YthldpihpjekleaaW.PrintLast Go.Proofs.YthldpihpjekleaaW.PrintMore
attribute [local go_sem] setCell_drewN0 max2_int min2_int max_two min_two max_three min_three max_four min_four   -- for this text's walks alone
set_option linter.unusedVariables false
set_option linter.unusedSimpArgs false

/-! ### ladderbacklaw09_CountHolds: function 4 -/
def ladderbacklaw09_CountHolds.f (a0_0 : Int) (a0_1 : Int) (a0_2 : Int) (a0_3 : Int) (a0_4 : Int) (a0_5 : Int) (a0_6 : Int) (a0_7 : Int) (a0_8 : Int) (a0_9 : Int) : Option (Bool) := (count_Step.f 4 a0_0 1 a0_2 a0_3 a0_4 a0_5 a0_6 a0_7 a0_8 a0_9).bind fun bt116 => ((count_Step.f 5 a0_0 1 a0_2 a0_3 a0_4 a0_5 a0_6 a0_7 a0_8 a0_9).bind fun bt126 => ((count_Step.f 6 a0_0 a0_1 1 a0_3 a0_4 a0_5 a0_6 a0_7 a0_8 a0_9).bind fun bt139 => ((count_Step.f 6 a0_0 a0_1 0 1 a0_4 a0_5 a0_6 a0_7 a0_8 a0_9).bind fun bt150 => (if bt116.2.2.2.2.1 = 0 then (if bt126.2.2.2.2.1 = a0_2 then (if bt139.2.2.2.2.2.2.2.1 = 0 then (if bt150.2.2.2.2.2.2.2.1 = a0_4 then (if bt150.2.2.2.2.2.1 = 1 then (if bt139.2.2.2.2.2.2.1 = 1 then (if ((bt116.2.2.2.1 == 1) == (decide (a0_2 ≤ 0))) = true then (if ((bt126.2.2.2.1 == 1) == (decide (a0_2 ≤ 0))) = true then ((ladderbacklaw09_awake.f).bind fun t161 => (some t161)) else (some false)) else (some false)) else (some false)) else (some false)) else (some false)) else (some false)) else (some false)) else (some false)))))
def ladderbacklaw09_CountHolds.T4 : Bool × List (List Nat × List Nat) := (true, [([], []), ([0], [0]), ([], []), ([2, 1], [2]), ([], []), ([], []), ([4, 1, 3, 0, 1, 4, 5], [1, 4]), ([5, 3, 6, 0, 1, 2, 3, 4, 5, 6], [3, 5])])
def ladderbacklaw09_CountHolds.B4 : List Nat := [0, 1, 0, 7, 0, 0, 63, 127]
theorem ladderbacklaw09_CountHolds.tab4 : rtab .any (opsOf Try.f4 4) = ladderbacklaw09_CountHolds.T4 := by kernel_rfl
theorem ladderbacklaw09_CountHolds.bits4 : waitsOk ladderbacklaw09_CountHolds.T4.2 ladderbacklaw09_CountHolds.B4 = true := by kernel_rfl
set_option maxHeartbeats 16000000 in
set_option maxRecDepth 100000 in
theorem ladderbacklaw09_CountHolds.calls (a0_0 : Int) (a0_1 : Int) (a0_2 : Int) (a0_3 : Int) (a0_4 : Int) (a0_5 : Int) (a0_6 : Int) (a0_7 : Int) (a0_8 : Int) (a0_9 : Int) (r : Bool) (w : World) (h : ladderbacklaw09_CountHolds.f a0_0 a0_1 a0_2 a0_3 a0_4 a0_5 a0_6 a0_7 a0_8 a0_9 = some r) (hrt_ : r = true := by rfl) :
  Calls Try.prog 4 #[.agg #[.int .i64 a0_0, .int .i64 a0_1, .int .i64 a0_2, .int .i64 a0_3, .int .i64 a0_4, .int .i64 a0_5, .int .i64 a0_6, .int .i64 a0_7, .int .i64 a0_8, .int .i64 a0_9]] w fun e w' => e = .returned (.bool r) ∧ Below w.heap.size w w' := by
 have hu26 := Try.underlying26
 have HB := Aside0.mk (Below.refl w.heap.size w)
 have H : ((count_Step.f 4 a0_0 1 a0_2 a0_3 a0_4 a0_5 a0_6 a0_7 a0_8 a0_9).bind fun bt116 => ((count_Step.f 5 a0_0 1 a0_2 a0_3 a0_4 a0_5 a0_6 a0_7 a0_8 a0_9).bind fun bt126 => ((count_Step.f 6 a0_0 a0_1 1 a0_3 a0_4 a0_5 a0_6 a0_7 a0_8 a0_9).bind fun bt139 => ((count_Step.f 6 a0_0 a0_1 0 1 a0_4 a0_5 a0_6 a0_7 a0_8 a0_9).bind fun bt150 => (if bt116.2.2.2.2.1 = 0 then (if bt126.2.2.2.2.1 = a0_2 then (if bt139.2.2.2.2.2.2.2.1 = 0 then (if bt150.2.2.2.2.2.2.2.1 = a0_4 then (if bt150.2.2.2.2.2.1 = 1 then (if bt139.2.2.2.2.2.2.1 = 1 then (if ((bt116.2.2.2.1 == 1) == (decide (a0_2 ≤ 0))) = true then (if ((bt126.2.2.2.1 == 1) == (decide (a0_2 ≤ 0))) = true then ((ladderbacklaw09_awake.f).bind fun t161 => (some t161)) else (some false)) else (some false)) else (some false)) else (some false)) else (some false)) else (some false)) else (some false)) else (some false)))))) = some r := h
 clear h
 have HRT := Aside0.mk hrt_
 clear hrt_
 replace H := Option.bind_eq_some_iff.mp H
 obtain ⟨⟨t116, t117, t118, t119, t120, t121, t122, t123, t124, t125⟩, A20, H⟩ := H
 replace H : ((count_Step.f 5 a0_0 1 a0_2 a0_3 a0_4 a0_5 a0_6 a0_7 a0_8 a0_9).bind fun bt126 => ((count_Step.f 6 a0_0 a0_1 1 a0_3 a0_4 a0_5 a0_6 a0_7 a0_8 a0_9).bind fun bt139 => ((count_Step.f 6 a0_0 a0_1 0 1 a0_4 a0_5 a0_6 a0_7 a0_8 a0_9).bind fun bt150 => (if t120 = 0 then (if bt126.2.2.2.2.1 = a0_2 then (if bt139.2.2.2.2.2.2.2.1 = 0 then (if bt150.2.2.2.2.2.2.2.1 = a0_4 then (if bt150.2.2.2.2.2.1 = 1 then (if bt139.2.2.2.2.2.2.1 = 1 then (if ((t119 == 1) == (decide (a0_2 ≤ 0))) = true then (if ((bt126.2.2.2.1 == 1) == (decide (a0_2 ≤ 0))) = true then ((ladderbacklaw09_awake.f).bind fun t161 => (some t161)) else (some false)) else (some false)) else (some false)) else (some false)) else (some false)) else (some false)) else (some false)) else (some false))))) = some r := H
 have A2 := Aside0.mk A20
 clear A20
 replace H := Option.bind_eq_some_iff.mp H
 obtain ⟨⟨t126, t127, t128, t129, t130, t131, t132, t133, t134, t135⟩, A30, H⟩ := H
 replace H : ((count_Step.f 6 a0_0 a0_1 1 a0_3 a0_4 a0_5 a0_6 a0_7 a0_8 a0_9).bind fun bt139 => ((count_Step.f 6 a0_0 a0_1 0 1 a0_4 a0_5 a0_6 a0_7 a0_8 a0_9).bind fun bt150 => (if t120 = 0 then (if t130 = a0_2 then (if bt139.2.2.2.2.2.2.2.1 = 0 then (if bt150.2.2.2.2.2.2.2.1 = a0_4 then (if bt150.2.2.2.2.2.1 = 1 then (if bt139.2.2.2.2.2.2.1 = 1 then (if ((t119 == 1) == (decide (a0_2 ≤ 0))) = true then (if ((t129 == 1) == (decide (a0_2 ≤ 0))) = true then ((ladderbacklaw09_awake.f).bind fun t161 => (some t161)) else (some false)) else (some false)) else (some false)) else (some false)) else (some false)) else (some false)) else (some false)) else (some false)))) = some r := H
 have A3 := Aside0.mk A30
 clear A30
 replace H := Option.bind_eq_some_iff.mp H
 obtain ⟨⟨t139, t140, t141, t142, t143, t144, t145, t146, t147, t148⟩, A40, H⟩ := H
 replace H : ((count_Step.f 6 a0_0 a0_1 0 1 a0_4 a0_5 a0_6 a0_7 a0_8 a0_9).bind fun bt150 => (if t120 = 0 then (if t130 = a0_2 then (if t146 = 0 then (if bt150.2.2.2.2.2.2.2.1 = a0_4 then (if bt150.2.2.2.2.2.1 = 1 then (if t145 = 1 then (if ((t119 == 1) == (decide (a0_2 ≤ 0))) = true then (if ((t129 == 1) == (decide (a0_2 ≤ 0))) = true then ((ladderbacklaw09_awake.f).bind fun t161 => (some t161)) else (some false)) else (some false)) else (some false)) else (some false)) else (some false)) else (some false)) else (some false)) else (some false))) = some r := H
 have A4 := Aside0.mk A40
 clear A40
 replace H := Option.bind_eq_some_iff.mp H
 obtain ⟨⟨t150, t151, t152, t153, t154, t155, t156, t157, t158, t159⟩, A50, H⟩ := H
 replace H : (if t120 = 0 then (if t130 = a0_2 then (if t146 = 0 then (if t157 = a0_4 then (if t155 = 1 then (if t145 = 1 then (if ((t119 == 1) == (decide (a0_2 ≤ 0))) = true then (if ((t129 == 1) == (decide (a0_2 ≤ 0))) = true then ((ladderbacklaw09_awake.f).bind fun t161 => (some t161)) else (some false)) else (some false)) else (some false)) else (some false)) else (some false)) else (some false)) else (some false)) else (some false)) = some r := H
 have A5 := Aside0.mk A50
 clear A50
 by_cases c6 : t120 = 0
 ·
  rw [if_pos c6] at H
  have c6b0 : (t120 == 0) = true := beq_iff_eq.mpr c6
  have c6b1 : (t120 != 0) = false := bne_eq_false_iff_eq.mpr c6
  clear c6
  by_cases c7 : t130 = a0_2
  ·
   rw [if_pos c7] at H
   have c7b0 : (t130 == a0_2) = true := beq_iff_eq.mpr c7
   have c7b1 : (t130 != a0_2) = false := bne_eq_false_iff_eq.mpr c7
   clear c7
   by_cases c8 : t146 = 0
   ·
    rw [if_pos c8] at H
    have c8b0 : (t146 == 0) = true := beq_iff_eq.mpr c8
    have c8b1 : (t146 != 0) = false := bne_eq_false_iff_eq.mpr c8
    clear c8
    by_cases c9 : t157 = a0_4
    ·
     rw [if_pos c9] at H
     have c9b0 : (t157 == a0_4) = true := beq_iff_eq.mpr c9
     have c9b1 : (t157 != a0_4) = false := bne_eq_false_iff_eq.mpr c9
     clear c9
     by_cases c10 : t155 = 1
     ·
      rw [if_pos c10] at H
      have c10b0 : (t155 == 1) = true := beq_iff_eq.mpr c10
      have c10b1 : (t155 != 1) = false := bne_eq_false_iff_eq.mpr c10
      clear c10
      by_cases c11 : t145 = 1
      ·
       rw [if_pos c11] at H
       have c11b0 : (t145 == 1) = true := beq_iff_eq.mpr c11
       have c11b1 : (t145 != 1) = false := bne_eq_false_iff_eq.mpr c11
       clear c11
       by_cases c12 : ((t119 == 1) == (decide (a0_2 ≤ 0))) = true
       ·
        rw [if_pos c12] at H
        have c12b0 : ((t119 == 1) == (decide (a0_2 ≤ 0))) = true := c12
        (try (have c12b1 : decide ((t119 == 1) = (decide (a0_2 ≤ 0))) = true := by simpa using c12))
        (try (have c12b2 : ((t119 == 1) == (decide (a0_2 ≤ 0))) = true := by simpa using c12))
        clear c12
        by_cases c13 : ((t129 == 1) == (decide (a0_2 ≤ 0))) = true
        ·
         rw [if_pos c13] at H
         have c13b0 : ((t129 == 1) == (decide (a0_2 ≤ 0))) = true := c13
         (try (have c13b1 : decide ((t129 == 1) = (decide (a0_2 ≤ 0))) = true := by simpa using c13))
         (try (have c13b2 : ((t129 == 1) == (decide (a0_2 ≤ 0))) = true := by simpa using c13))
         clear c13
         replace H := Option.bind_eq_some_iff.mp H
         obtain ⟨t161, A140, H⟩ := H
         replace H : (some t161) = some r := H
         have A14 := Aside0.mk A140
         clear A140
         obtain rfl := Option.some.inj H
         go_enter Try.func4, Try.ntmps4
         try go_wp2_with (first | ((with_reducible refine gate_dst (N := 1) rfl ?_); refine box_event ?hg (N := 1) ?hd (cs := #[.int .i64 a0_0, .int .i64 a0_1, .int .i64 a0_2, .int .i64 a0_3, .int .i64 a0_4, .int .i64 a0_5, .int .i64 a0_6, .int .i64 a0_7, .int .i64 a0_8, .int .i64 a0_9]) (t := 26) ?hr ?_; (case hd => rfl); (case hg => rfl); (case hr => first | (go_simp; done) | (go_simp; rfl)); intro gb113 hg w15 hbox hb; have n0_ := Aside0.mk (below_step (by repeat (first | (with_reducible first | exact HB.out | apply below_alloc | apply pw_below_drewN | apply below_drew1) | exact HB.out)) hb); have n1_ := Aside0.mk (hbox); have n2_ := Aside0.mk ((by rw [hg]; exact (below_size (by repeat (first | (with_reducible first | exact HB.out | apply below_alloc | apply pw_below_drewN | apply below_drew1) | exact HB.out))) : w.heap.size ≤ gb113)); have n3_ := Aside0.mk ((by rw [hg]; exact (below_size (by repeat (first | (with_reducible first | exact HB.out | apply below_alloc | apply pw_below_drewN | apply below_drew1) | exact HB.out))) : w.heap.size ≤ gb113)); clear HB; have HB := n0_; have BK113 := n1_; have GW113 := n2_; have GE113 := n3_; clear n0_ n1_ n2_ n3_; clear hb hbox hg))
         have n0_ := Aside0.mk (blk_drew BK113.out)
         have n1_ := Aside0.mk (below_drew1 HB.out)
         clear BK113
         clear HB
         have BK113 := n0_
         have HB := n1_
         clear n0_ n1_
         refine start_ (n := 6) (S := fun w' => w'.cell? ⟨gb113, 0, none⟩ = some (.int .i64 a0_0) ∧ w'.cell? ⟨gb113, 1, none⟩ = some (.int .i64 a0_1) ∧ w'.cell? ⟨gb113, 2, none⟩ = some (.int .i64 a0_2) ∧ w'.cell? ⟨gb113, 3, none⟩ = some (.int .i64 a0_3) ∧ w'.cell? ⟨gb113, 4, none⟩ = some (.int .i64 a0_4) ∧ w'.cell? ⟨gb113, 5, none⟩ = some (.int .i64 a0_5) ∧ w'.cell? ⟨gb113, 6, none⟩ = some (.int .i64 a0_6) ∧ w'.cell? ⟨gb113, 7, none⟩ = some (.int .i64 a0_7) ∧ w'.cell? ⟨gb113, 8, none⟩ = some (.int .i64 a0_8) ∧ w'.cell? ⟨gb113, 9, none⟩ = some (.int .i64 a0_9)) (ds := []) #[Ff,Ff,Ff,Ff,Ff,Ff] (by kernel_rfl) rfl rfl ⟨(blk_cell BK113.out 0).trans rfl, (blk_cell BK113.out 1).trans rfl, (blk_cell BK113.out 2).trans rfl, (blk_cell BK113.out 3).trans rfl, (blk_cell BK113.out 4).trans rfl, (blk_cell BK113.out 5).trans rfl, (blk_cell BK113.out 6).trans rfl, (blk_cell BK113.out 7).trans rfl, (blk_cell BK113.out 8).trans rfl, (blk_cell BK113.out 9).trans rfl⟩ (fun hHeld => ?_)
         generalize w15.drew = w16 at BK113 HB hHeld ⊢
         refine take_ (i := 0) (N := some 10) (v := ?_) (a' := ?_) #[Tt,Ff,Ff,Ff,Ff,Ff] rfl rfl (by kernel_rfl) (fun _ _ _ h => h) (Or.inl ⟨by rfl, ?_⟩) hHeld ?_ ?_
         rotate_left
         ·
          rintro w' ⟨s0, s1, s2, s3, s4, s5, s6, s7, s8, s9⟩
          go_simp
          with_reducible rfl
         rotate_left
         ·
          simp only [Act.put, List.setIfInBounds_toArray, List.set_cons_zero, List.set_cons_succ, i64_w, i32_w]
          rfl
         refine take_ (i := 1) (N := some 11) (v := ?_) (a' := ?_) #[Tt,Tt,Ff,Ff,Ff,Ff] rfl rfl (by kernel_rfl) (fun _ _ _ h => h) (Or.inl ⟨by rfl, ?_⟩) hHeld ?_ ?_
         rotate_left
         ·
          rintro w' ⟨s0, s1, s2, s3, s4, s5, s6, s7, s8, s9⟩
          go_simp
          with_reducible rfl
         rotate_left
         ·
          simp only [Act.put, List.setIfInBounds_toArray, List.set_cons_zero, List.set_cons_succ, i64_w, i32_w]
          rfl
         refine join_ (σ := Nat × Nat) 2 #[Tt,Tt,Tt,Tt,Ff,Ff] (fun s_ => [(3, .pointer (some ⟨s_.1, 0, none⟩)), (4, .pointer (some ⟨s_.2, 0, none⟩))]) (fun s_ w' => (w'.cell? ⟨gb113, 0, none⟩ = some (.int .i64 a0_0) ∧ w'.cell? ⟨gb113, 1, none⟩ = some (.int .i64 a0_1) ∧ w'.cell? ⟨gb113, 2, none⟩ = some (.int .i64 a0_2) ∧ w'.cell? ⟨gb113, 3, none⟩ = some (.int .i64 a0_3) ∧ w'.cell? ⟨gb113, 4, none⟩ = some (.int .i64 a0_4) ∧ w'.cell? ⟨gb113, 5, none⟩ = some (.int .i64 a0_5) ∧ w'.cell? ⟨gb113, 6, none⟩ = some (.int .i64 a0_6) ∧ w'.cell? ⟨gb113, 7, none⟩ = some (.int .i64 a0_7) ∧ w'.cell? ⟨gb113, 8, none⟩ = some (.int .i64 a0_8) ∧ w'.cell? ⟨gb113, 9, none⟩ = some (.int .i64 a0_9)) ∧ (w'.heap[gb113]? = some (.cells #[.int .i64 a0_0, .int .i64 a0_1, .int .i64 a0_2, .int .i64 a0_3, .int .i64 a0_4, .int .i64 a0_5, .int .i64 a0_6, .int .i64 a0_7, .int .i64 a0_8, .int .i64 a0_9] 26 (0, 0))) ∧ (w'.heap[s_.1]? = some (.cells #[.int .i64 0, .int .i64 0, .int .i64 0, .int .i64 0, .int .i64 0, .int .i64 0, .int .i64 0, .int .i64 0, .int .i64 0, .int .i64 0] 26 (0, 0))) ∧ (w'.heap[s_.2]? = some (.cells #[.int .i64 0, .int .i64 0, .int .i64 0, .int .i64 0, .int .i64 0, .int .i64 0, .int .i64 0, .int .i64 0, .int .i64 0, .int .i64 0] 26 (0, 0))) ∧ (w.heap.size ≤ s_.1) ∧ (w.heap.size ≤ s_.1) ∧ (gb113 ≠ s_.1) ∧ (s_.1 ≠ gb113) ∧ (s_.2 ≠ s_.1) ∧ (s_.1 ≠ s_.2) ∧ (w.heap.size ≤ s_.2) ∧ (w.heap.size ≤ s_.2) ∧ (gb113 ≠ s_.2) ∧ (s_.2 ≠ gb113) ∧ (Below w.heap.size w w')) ?_ ?_
         rotate_left
         ·
          intro hCont
          refine two_ (i := 2) (j := 3) (Ni := some 3) (Nj := some 4) #[Tt,Tt,Tt,Ff,Ff,Ff] #[Tt,Tt,Ff,Tt,Ff,Ff] rfl rfl rfl rfl (by kernel_rfl) (by decide) (by decide) (fun K hK => ?_) (fun K hK => ?_)
          ·
           skip
           refine box_step ?hg (N := 3) ?hd (cs := #[.int .i64 0, .int .i64 0, .int .i64 0, .int .i64 0, .int .i64 0, .int .i64 0, .int .i64 0, .int .i64 0, .int .i64 0, .int .i64 0]) (t := 26) ?hr ?_; (case hd => rfl); (case hg => rfl); (case hr => first | (go_simp; done) | (go_simp; rfl))
           intro gb114 hg w17 hbox hb
           have n0_ := blkB_ hb BK113
           have n1_ := Aside0.mk (below_step (by repeat (first | (with_reducible first | exact HB.out | apply below_alloc | apply pw_below_drewN | apply below_drew1 | refine below_set ?_ GE113.out) | exact HB.out)) hb)
           have n2_ := Aside0.mk (hbox)
           have n3_ := Aside0.mk ((by rw [hg]; exact (below_size (by repeat (first | (with_reducible first | exact HB.out | apply below_alloc | apply pw_below_drewN | apply below_drew1 | refine below_set ?_ GE113.out) | exact HB.out))) : w.heap.size ≤ gb114))
           have n4_ := Aside0.mk ((by rw [hg]; exact (below_size (by repeat (first | (with_reducible first | exact HB.out | apply below_alloc | apply pw_below_drewN | apply below_drew1 | refine below_set ?_ GE113.out) | exact HB.out))) : w.heap.size ≤ gb114))
           have n5_ := neL_ hg BK113
           have n6_ := neG_ hg BK113
           clear BK113
           clear HB
           have BK113 := n0_
           have HB := n1_
           have BK114 := n2_
           have GW114 := n3_
           have GE114 := n4_
           have NB113_114 := n5_
           have NB114_113 := n6_
           clear n0_ n1_ n2_ n3_ n4_ n5_ n6_
           clear hb hbox hg
           refine hK.out _ _ ⟨(blk_cell BK113.out 0).trans rfl, (blk_cell BK113.out 1).trans rfl, (blk_cell BK113.out 2).trans rfl, (blk_cell BK113.out 3).trans rfl, (blk_cell BK113.out 4).trans rfl, (blk_cell BK113.out 5).trans rfl, (blk_cell BK113.out 6).trans rfl, (blk_cell BK113.out 7).trans rfl, (blk_cell BK113.out 8).trans rfl, (blk_cell BK113.out 9).trans rfl⟩ (fun hHeld => ?_)
           clear hK K
           refine norm_ (a' := ?_) ?_ ?_
           rotate_left
           ·
            show Act.put _ (some 3) _ = _
            simp only [Act.put, List.setIfInBounds_toArray, List.set_cons_zero, List.set_cons_succ, i64_w, i32_w]
            rfl
           refine one_ (i := 3) (N := some 4) #[Tt,Tt,Tt,Tt,Ff,Ff] rfl rfl (by kernel_rfl) (by decide) (fun K hK => ?_)
           refine box_step ?hg (N := 4) ?hd (cs := #[.int .i64 0, .int .i64 0, .int .i64 0, .int .i64 0, .int .i64 0, .int .i64 0, .int .i64 0, .int .i64 0, .int .i64 0, .int .i64 0]) (t := 26) ?hr ?_; (case hd => rfl); (case hg => rfl); (case hr => first | (go_simp; done) | (go_simp; rfl))
           intro gb115 hg w18 hbox hb
           have n0_ := blkB_ hb BK113
           have n1_ := blkB_ hb BK114
           have n2_ := Aside0.mk (below_step (by repeat (first | (with_reducible first | exact HB.out | apply below_alloc | apply pw_below_drewN | apply below_drew1 | refine below_set ?_ GE113.out | refine below_set ?_ GE114.out) | exact HB.out)) hb)
           have n3_ := Aside0.mk (hbox)
           have n4_ := Aside0.mk ((by rw [hg]; exact (below_size (by repeat (first | (with_reducible first | exact HB.out | apply below_alloc | apply pw_below_drewN | apply below_drew1 | refine below_set ?_ GE113.out | refine below_set ?_ GE114.out) | exact HB.out))) : w.heap.size ≤ gb115))
           have n5_ := Aside0.mk ((by rw [hg]; exact (below_size (by repeat (first | (with_reducible first | exact HB.out | apply below_alloc | apply pw_below_drewN | apply below_drew1 | refine below_set ?_ GE113.out | refine below_set ?_ GE114.out) | exact HB.out))) : w.heap.size ≤ gb115))
           have n6_ := neL_ hg BK113
           have n7_ := neG_ hg BK113
           have n8_ := neL_ hg BK114
           have n9_ := neG_ hg BK114
           clear BK113
           clear BK114
           clear HB
           have BK113 := n0_
           have BK114 := n1_
           have HB := n2_
           have BK115 := n3_
           have GW115 := n4_
           have GE115 := n5_
           have NB113_115 := n6_
           have NB115_113 := n7_
           have NB114_115 := n8_
           have NB115_114 := n9_
           clear n0_ n1_ n2_ n3_ n4_ n5_ n6_ n7_ n8_ n9_
           clear hb hbox hg
           refine hK.out _ _ ⟨(blk_cell BK113.out 0).trans rfl, (blk_cell BK113.out 1).trans rfl, (blk_cell BK113.out 2).trans rfl, (blk_cell BK113.out 3).trans rfl, (blk_cell BK113.out 4).trans rfl, (blk_cell BK113.out 5).trans rfl, (blk_cell BK113.out 6).trans rfl, (blk_cell BK113.out 7).trans rfl, (blk_cell BK113.out 8).trans rfl, (blk_cell BK113.out 9).trans rfl⟩ (fun hHeld => ?_)
           clear hK K
           refine norm_ (a' := ?_) ?_ ?_
           rotate_left
           ·
            show Act.put _ (some 4) _ = _
            simp only [Act.put, List.setIfInBounds_toArray, List.set_cons_zero, List.set_cons_succ, i64_w, i32_w]
            rfl
           exact norm_ (by simp only [putAll, Act.put, List.setIfInBounds_toArray, List.set_cons_zero, List.set_cons_succ]) (hCont (gb114, gb115) _ ⟨hHeld, BK113.out, BK114.out, BK115.out, GW114.out, GE114.out, NB113_114.out, NB114_113.out, NB115_114.out, NB114_115.out, GW115.out, GE115.out, NB113_115.out, NB115_113.out, (by repeat (first | (with_reducible first | exact HB.out | apply below_alloc | apply pw_below_drewN | apply below_drew1 | refine below_set ?_ GE113.out | refine below_set ?_ GE114.out | refine below_set ?_ GE115.out) | exact HB.out))⟩)
          ·
           skip
           refine box_step ?hg (N := 4) ?hd (cs := #[.int .i64 0, .int .i64 0, .int .i64 0, .int .i64 0, .int .i64 0, .int .i64 0, .int .i64 0, .int .i64 0, .int .i64 0, .int .i64 0]) (t := 26) ?hr ?_; (case hd => rfl); (case hg => rfl); (case hr => first | (go_simp; done) | (go_simp; rfl))
           intro gb115 hg w17 hbox hb
           have n0_ := blkB_ hb BK113
           have n1_ := Aside0.mk (below_step (by repeat (first | (with_reducible first | exact HB.out | apply below_alloc | apply pw_below_drewN | apply below_drew1 | refine below_set ?_ GE113.out) | exact HB.out)) hb)
           have n2_ := Aside0.mk (hbox)
           have n3_ := Aside0.mk ((by rw [hg]; exact (below_size (by repeat (first | (with_reducible first | exact HB.out | apply below_alloc | apply pw_below_drewN | apply below_drew1 | refine below_set ?_ GE113.out) | exact HB.out))) : w.heap.size ≤ gb115))
           have n4_ := Aside0.mk ((by rw [hg]; exact (below_size (by repeat (first | (with_reducible first | exact HB.out | apply below_alloc | apply pw_below_drewN | apply below_drew1 | refine below_set ?_ GE113.out) | exact HB.out))) : w.heap.size ≤ gb115))
           have n5_ := neL_ hg BK113
           have n6_ := neG_ hg BK113
           clear BK113
           clear HB
           have BK113 := n0_
           have HB := n1_
           have BK115 := n2_
           have GW115 := n3_
           have GE115 := n4_
           have NB113_115 := n5_
           have NB115_113 := n6_
           clear n0_ n1_ n2_ n3_ n4_ n5_ n6_
           clear hb hbox hg
           refine hK.out _ _ ⟨(blk_cell BK113.out 0).trans rfl, (blk_cell BK113.out 1).trans rfl, (blk_cell BK113.out 2).trans rfl, (blk_cell BK113.out 3).trans rfl, (blk_cell BK113.out 4).trans rfl, (blk_cell BK113.out 5).trans rfl, (blk_cell BK113.out 6).trans rfl, (blk_cell BK113.out 7).trans rfl, (blk_cell BK113.out 8).trans rfl, (blk_cell BK113.out 9).trans rfl⟩ (fun hHeld => ?_)
           clear hK K
           refine norm_ (a' := ?_) ?_ ?_
           rotate_left
           ·
            show Act.put _ (some 4) _ = _
            simp only [Act.put, List.setIfInBounds_toArray, List.set_cons_zero, List.set_cons_succ, i64_w, i32_w]
            rfl
           refine one_ (i := 2) (N := some 3) #[Tt,Tt,Tt,Tt,Ff,Ff] rfl rfl (by kernel_rfl) (by decide) (fun K hK => ?_)
           refine box_step ?hg (N := 3) ?hd (cs := #[.int .i64 0, .int .i64 0, .int .i64 0, .int .i64 0, .int .i64 0, .int .i64 0, .int .i64 0, .int .i64 0, .int .i64 0, .int .i64 0]) (t := 26) ?hr ?_; (case hd => rfl); (case hg => rfl); (case hr => first | (go_simp; done) | (go_simp; rfl))
           intro gb114 hg w18 hbox hb
           have n0_ := blkB_ hb BK113
           have n1_ := blkB_ hb BK115
           have n2_ := Aside0.mk (below_step (by repeat (first | (with_reducible first | exact HB.out | apply below_alloc | apply pw_below_drewN | apply below_drew1 | refine below_set ?_ GE113.out | refine below_set ?_ GE115.out) | exact HB.out)) hb)
           have n3_ := Aside0.mk (hbox)
           have n4_ := Aside0.mk ((by rw [hg]; exact (below_size (by repeat (first | (with_reducible first | exact HB.out | apply below_alloc | apply pw_below_drewN | apply below_drew1 | refine below_set ?_ GE113.out | refine below_set ?_ GE115.out) | exact HB.out))) : w.heap.size ≤ gb114))
           have n5_ := Aside0.mk ((by rw [hg]; exact (below_size (by repeat (first | (with_reducible first | exact HB.out | apply below_alloc | apply pw_below_drewN | apply below_drew1 | refine below_set ?_ GE113.out | refine below_set ?_ GE115.out) | exact HB.out))) : w.heap.size ≤ gb114))
           have n6_ := neL_ hg BK113
           have n7_ := neG_ hg BK113
           have n8_ := neL_ hg BK115
           have n9_ := neG_ hg BK115
           clear BK113
           clear BK115
           clear HB
           have BK113 := n0_
           have BK115 := n1_
           have HB := n2_
           have BK114 := n3_
           have GW114 := n4_
           have GE114 := n5_
           have NB113_114 := n6_
           have NB114_113 := n7_
           have NB115_114 := n8_
           have NB114_115 := n9_
           clear n0_ n1_ n2_ n3_ n4_ n5_ n6_ n7_ n8_ n9_
           clear hb hbox hg
           refine hK.out _ _ ⟨(blk_cell BK113.out 0).trans rfl, (blk_cell BK113.out 1).trans rfl, (blk_cell BK113.out 2).trans rfl, (blk_cell BK113.out 3).trans rfl, (blk_cell BK113.out 4).trans rfl, (blk_cell BK113.out 5).trans rfl, (blk_cell BK113.out 6).trans rfl, (blk_cell BK113.out 7).trans rfl, (blk_cell BK113.out 8).trans rfl, (blk_cell BK113.out 9).trans rfl⟩ (fun hHeld => ?_)
           clear hK K
           refine norm_ (a' := ?_) ?_ ?_
           rotate_left
           ·
            show Act.put _ (some 3) _ = _
            simp only [Act.put, List.setIfInBounds_toArray, List.set_cons_zero, List.set_cons_succ, i64_w, i32_w]
            rfl
           exact norm_ (by simp only [putAll, Act.put, List.setIfInBounds_toArray, List.set_cons_zero, List.set_cons_succ]) (hCont (gb114, gb115) _ ⟨hHeld, BK113.out, BK114.out, BK115.out, GW114.out, GE114.out, NB113_114.out, NB114_113.out, NB115_114.out, NB114_115.out, GW115.out, GE115.out, NB113_115.out, NB115_113.out, (by repeat (first | (with_reducible first | exact HB.out | apply below_alloc | apply pw_below_drewN | apply below_drew1 | refine below_set ?_ GE113.out | refine below_set ?_ GE115.out | refine below_set ?_ GE114.out) | exact HB.out))⟩)
         rintro ⟨gb114, gb115⟩ w19 ⟨hS_, h0_, h1_, h2_, h3_, h4_, h5_, h6_, h7_, h8_, h9_, h10_, h11_, h12_, h13_⟩
         have n0_ : Aside0 (w19.heap[gb113]? = some (.cells #[.int .i64 a0_0, .int .i64 a0_1, .int .i64 a0_2, .int .i64 a0_3, .int .i64 a0_4, .int .i64 a0_5, .int .i64 a0_6, .int .i64 a0_7, .int .i64 a0_8, .int .i64 a0_9] 26 (0, 0))) := ⟨h0_⟩
         have n1_ : Aside0 (w19.heap[gb114]? = some (.cells #[.int .i64 0, .int .i64 0, .int .i64 0, .int .i64 0, .int .i64 0, .int .i64 0, .int .i64 0, .int .i64 0, .int .i64 0, .int .i64 0] 26 (0, 0))) := ⟨h1_⟩
         have n2_ : Aside0 (w19.heap[gb115]? = some (.cells #[.int .i64 0, .int .i64 0, .int .i64 0, .int .i64 0, .int .i64 0, .int .i64 0, .int .i64 0, .int .i64 0, .int .i64 0, .int .i64 0] 26 (0, 0))) := ⟨h2_⟩
         have n3_ : Aside0 (w.heap.size ≤ gb114) := ⟨h3_⟩
         have n4_ : Aside0 (w.heap.size ≤ gb114) := ⟨h4_⟩
         have n5_ : Aside0 (gb113 ≠ gb114) := ⟨h5_⟩
         have n6_ : Aside0 (gb114 ≠ gb113) := ⟨h6_⟩
         have n7_ : Aside0 (gb115 ≠ gb114) := ⟨h7_⟩
         have n8_ : Aside0 (gb114 ≠ gb115) := ⟨h8_⟩
         have n9_ : Aside0 (w.heap.size ≤ gb115) := ⟨h9_⟩
         have n10_ : Aside0 (w.heap.size ≤ gb115) := ⟨h10_⟩
         have n11_ : Aside0 (gb113 ≠ gb115) := ⟨h11_⟩
         have n12_ : Aside0 (gb115 ≠ gb113) := ⟨h12_⟩
         have n13_ : Aside0 (Below w.heap.size w w19) := ⟨h13_⟩
         clear BK113
         clear HB
         clear h0_ h1_ h2_ h3_ h4_ h5_ h6_ h7_ h8_ h9_ h10_ h11_ h12_ h13_
         have BK113 := n0_
         have BK114 := n1_
         have BK115 := n2_
         have GW114 := n3_
         have GE114 := n4_
         have NB113_114 := n5_
         have NB114_113 := n6_
         have NB115_114 := n7_
         have NB114_115 := n8_
         have GW115 := n9_
         have GE115 := n10_
         have NB113_115 := n11_
         have NB115_113 := n12_
         have HB := n13_
         clear n0_ n1_ n2_ n3_ n4_ n5_ n6_ n7_ n8_ n9_ n10_ n11_ n12_ n13_
         have hHeld : w19.cell? ⟨gb113, 0, none⟩ = some (.int .i64 a0_0) ∧ w19.cell? ⟨gb113, 1, none⟩ = some (.int .i64 a0_1) ∧ w19.cell? ⟨gb113, 2, none⟩ = some (.int .i64 a0_2) ∧ w19.cell? ⟨gb113, 3, none⟩ = some (.int .i64 a0_3) ∧ w19.cell? ⟨gb113, 4, none⟩ = some (.int .i64 a0_4) ∧ w19.cell? ⟨gb113, 5, none⟩ = some (.int .i64 a0_5) ∧ w19.cell? ⟨gb113, 6, none⟩ = some (.int .i64 a0_6) ∧ w19.cell? ⟨gb113, 7, none⟩ = some (.int .i64 a0_7) ∧ w19.cell? ⟨gb113, 8, none⟩ = some (.int .i64 a0_8) ∧ w19.cell? ⟨gb113, 9, none⟩ = some (.int .i64 a0_9) := hS_
         refine norm_ (a' := ?_) ?_ ?_
         rotate_left
         ·
          simp only [putAll, Act.put, List.setIfInBounds_toArray, List.set_cons_zero, List.set_cons_succ]
          rfl
         refine one_ (i := 4) (N := none) #[Tt,Tt,Tt,Tt,Tt,Ff] rfl rfl (by kernel_rfl) (by decide) (fun K hK => ?_)
         have hs20 : w19.cell? ⟨gb114, 0, none⟩ = some (.int .i64 0) := (blk_cell BK114.out 0).trans rfl
         have hfs20 := blk_frozen BK114.out 0
         have hns20_0 := NB113_114.out
         have hns20_2 := NB115_114.out
         have hms20_0 := NB114_113.out
         have hms20_2 := NB114_115.out
         have hs21 : w19.cell? ⟨gb114, 1, none⟩ = some (.int .i64 0) := (blk_cell BK114.out 1).trans rfl
         have hfs21 := blk_frozen BK114.out 1
         have hns21_0 := NB113_114.out
         have hns21_2 := NB115_114.out
         have hms21_0 := NB114_113.out
         have hms21_2 := NB114_115.out
         have hs22 : w19.cell? ⟨gb114, 2, none⟩ = some (.int .i64 0) := (blk_cell BK114.out 2).trans rfl
         have hfs22 := blk_frozen BK114.out 2
         have hns22_0 := NB113_114.out
         have hns22_2 := NB115_114.out
         have hms22_0 := NB114_113.out
         have hms22_2 := NB114_115.out
         have hs23 : w19.cell? ⟨gb114, 3, none⟩ = some (.int .i64 0) := (blk_cell BK114.out 3).trans rfl
         have hfs23 := blk_frozen BK114.out 3
         have hns23_0 := NB113_114.out
         have hns23_2 := NB115_114.out
         have hms23_0 := NB114_113.out
         have hms23_2 := NB114_115.out
         have hs24 : w19.cell? ⟨gb114, 4, none⟩ = some (.int .i64 0) := (blk_cell BK114.out 4).trans rfl
         have hfs24 := blk_frozen BK114.out 4
         have hns24_0 := NB113_114.out
         have hns24_2 := NB115_114.out
         have hms24_0 := NB114_113.out
         have hms24_2 := NB114_115.out
         have hs25 : w19.cell? ⟨gb114, 5, none⟩ = some (.int .i64 0) := (blk_cell BK114.out 5).trans rfl
         have hfs25 := blk_frozen BK114.out 5
         have hns25_0 := NB113_114.out
         have hns25_2 := NB115_114.out
         have hms25_0 := NB114_113.out
         have hms25_2 := NB114_115.out
         have hs26 : w19.cell? ⟨gb114, 6, none⟩ = some (.int .i64 0) := (blk_cell BK114.out 6).trans rfl
         have hfs26 := blk_frozen BK114.out 6
         have hns26_0 := NB113_114.out
         have hns26_2 := NB115_114.out
         have hms26_0 := NB114_113.out
         have hms26_2 := NB114_115.out
         have hs27 : w19.cell? ⟨gb114, 7, none⟩ = some (.int .i64 0) := (blk_cell BK114.out 7).trans rfl
         have hfs27 := blk_frozen BK114.out 7
         have hns27_0 := NB113_114.out
         have hns27_2 := NB115_114.out
         have hms27_0 := NB114_113.out
         have hms27_2 := NB114_115.out
         have hs28 : w19.cell? ⟨gb114, 8, none⟩ = some (.int .i64 0) := (blk_cell BK114.out 8).trans rfl
         have hfs28 := blk_frozen BK114.out 8
         have hns28_0 := NB113_114.out
         have hns28_2 := NB115_114.out
         have hms28_0 := NB114_113.out
         have hms28_2 := NB114_115.out
         have hs29 : w19.cell? ⟨gb114, 9, none⟩ = some (.int .i64 0) := (blk_cell BK114.out 9).trans rfl
         have hfs29 := blk_frozen BK114.out 9
         have hns29_0 := NB113_114.out
         have hns29_2 := NB115_114.out
         have hms29_0 := NB114_113.out
         have hms29_2 := NB114_115.out
         with_reducible refine skip_ (w1 := ?_) ?_ ?_ ?_ ?_
         rotate_left
         · rfl
         · rfl
         ·
          first | (exact store10_ rfl rfl rfl (by repeat' (first | (with_reducible exact Aside0.out (by assumption)) | refine blk_far ?_ (Aside0.out (by assumption)) _))) | (go_simp; rfl)
         refine hK.out _ _ ⟨((far10_ NB113_114.out).trans (hHeld.1)), ((far10_ NB113_114.out).trans (hHeld.2.1)), ((far10_ NB113_114.out).trans (hHeld.2.2.1)), ((far10_ NB113_114.out).trans (hHeld.2.2.2.1)), ((far10_ NB113_114.out).trans (hHeld.2.2.2.2.1)), ((far10_ NB113_114.out).trans (hHeld.2.2.2.2.2.1)), ((far10_ NB113_114.out).trans (hHeld.2.2.2.2.2.2.1)), ((far10_ NB113_114.out).trans (hHeld.2.2.2.2.2.2.2.1)), ((far10_ NB113_114.out).trans (hHeld.2.2.2.2.2.2.2.2.1)), ((far10_ NB113_114.out).trans (hHeld.2.2.2.2.2.2.2.2.2))⟩ (fun hHeld => ?_)
         clear hK K
         clear hs20 hfs20 hns20_0 hns20_2 hms20_0 hms20_2 hs21 hfs21 hns21_0 hns21_2 hms21_0 hms21_2 hs22 hfs22 hns22_0 hns22_2 hms22_0 hms22_2 hs23 hfs23 hns23_0 hns23_2 hms23_0 hms23_2 hs24 hfs24 hns24_0 hns24_2 hms24_0 hms24_2 hs25 hfs25 hns25_0 hns25_2 hms25_0 hms25_2 hs26 hfs26 hns26_0 hns26_2 hms26_0 hms26_2 hs27 hfs27 hns27_0 hns27_2 hms27_0 hms27_2 hs28 hfs28 hns28_0 hns28_2 hms28_0 hms28_2 hs29 hfs29 hns29_0 hns29_2 hms29_0 hms29_2
         refine one_ (i := 5) (N := none) #[Tt,Tt,Tt,Tt,Tt,Tt] rfl rfl (by kernel_rfl) (by decide) (fun K hK => ?_)
         have hs30 : w19.cell? ⟨gb115, 0, none⟩ = some (.int .i64 0) := (blk_cell BK115.out 0).trans rfl
         have hfs30 := blk_frozen BK115.out 0
         have hns30_0 := NB113_115.out
         have hns30_1 := NB114_115.out
         have hms30_0 := NB115_113.out
         have hms30_1 := NB115_114.out
         have hs31 : w19.cell? ⟨gb115, 1, none⟩ = some (.int .i64 0) := (blk_cell BK115.out 1).trans rfl
         have hfs31 := blk_frozen BK115.out 1
         have hns31_0 := NB113_115.out
         have hns31_1 := NB114_115.out
         have hms31_0 := NB115_113.out
         have hms31_1 := NB115_114.out
         have hs32 : w19.cell? ⟨gb115, 2, none⟩ = some (.int .i64 0) := (blk_cell BK115.out 2).trans rfl
         have hfs32 := blk_frozen BK115.out 2
         have hns32_0 := NB113_115.out
         have hns32_1 := NB114_115.out
         have hms32_0 := NB115_113.out
         have hms32_1 := NB115_114.out
         have hs33 : w19.cell? ⟨gb115, 3, none⟩ = some (.int .i64 0) := (blk_cell BK115.out 3).trans rfl
         have hfs33 := blk_frozen BK115.out 3
         have hns33_0 := NB113_115.out
         have hns33_1 := NB114_115.out
         have hms33_0 := NB115_113.out
         have hms33_1 := NB115_114.out
         have hs34 : w19.cell? ⟨gb115, 4, none⟩ = some (.int .i64 0) := (blk_cell BK115.out 4).trans rfl
         have hfs34 := blk_frozen BK115.out 4
         have hns34_0 := NB113_115.out
         have hns34_1 := NB114_115.out
         have hms34_0 := NB115_113.out
         have hms34_1 := NB115_114.out
         have hs35 : w19.cell? ⟨gb115, 5, none⟩ = some (.int .i64 0) := (blk_cell BK115.out 5).trans rfl
         have hfs35 := blk_frozen BK115.out 5
         have hns35_0 := NB113_115.out
         have hns35_1 := NB114_115.out
         have hms35_0 := NB115_113.out
         have hms35_1 := NB115_114.out
         have hs36 : w19.cell? ⟨gb115, 6, none⟩ = some (.int .i64 0) := (blk_cell BK115.out 6).trans rfl
         have hfs36 := blk_frozen BK115.out 6
         have hns36_0 := NB113_115.out
         have hns36_1 := NB114_115.out
         have hms36_0 := NB115_113.out
         have hms36_1 := NB115_114.out
         have hs37 : w19.cell? ⟨gb115, 7, none⟩ = some (.int .i64 0) := (blk_cell BK115.out 7).trans rfl
         have hfs37 := blk_frozen BK115.out 7
         have hns37_0 := NB113_115.out
         have hns37_1 := NB114_115.out
         have hms37_0 := NB115_113.out
         have hms37_1 := NB115_114.out
         have hs38 : w19.cell? ⟨gb115, 8, none⟩ = some (.int .i64 0) := (blk_cell BK115.out 8).trans rfl
         have hfs38 := blk_frozen BK115.out 8
         have hns38_0 := NB113_115.out
         have hns38_1 := NB114_115.out
         have hms38_0 := NB115_113.out
         have hms38_1 := NB115_114.out
         have hs39 : w19.cell? ⟨gb115, 9, none⟩ = some (.int .i64 0) := (blk_cell BK115.out 9).trans rfl
         have hfs39 := blk_frozen BK115.out 9
         have hns39_0 := NB113_115.out
         have hns39_1 := NB114_115.out
         have hms39_0 := NB115_113.out
         have hms39_1 := NB115_114.out
         with_reducible refine skip_ (w1 := ?_) ?_ ?_ ?_ ?_
         rotate_left
         · rfl
         · rfl
         ·
          first | (exact store10_ rfl rfl rfl (by repeat' (first | (with_reducible exact Aside0.out (by assumption)) | refine blk_far ?_ (Aside0.out (by assumption)) _))) | (go_simp; rfl)
         refine hK.out _ _ ⟨((far10_ NB113_115.out).trans (hHeld.1)), ((far10_ NB113_115.out).trans (hHeld.2.1)), ((far10_ NB113_115.out).trans (hHeld.2.2.1)), ((far10_ NB113_115.out).trans (hHeld.2.2.2.1)), ((far10_ NB113_115.out).trans (hHeld.2.2.2.2.1)), ((far10_ NB113_115.out).trans (hHeld.2.2.2.2.2.1)), ((far10_ NB113_115.out).trans (hHeld.2.2.2.2.2.2.1)), ((far10_ NB113_115.out).trans (hHeld.2.2.2.2.2.2.2.1)), ((far10_ NB113_115.out).trans (hHeld.2.2.2.2.2.2.2.2.1)), ((far10_ NB113_115.out).trans (hHeld.2.2.2.2.2.2.2.2.2))⟩ (fun hHeld => ?_)
         clear hK K
         clear hs30 hfs30 hns30_0 hns30_1 hms30_0 hms30_1 hs31 hfs31 hns31_0 hns31_1 hms31_0 hms31_1 hs32 hfs32 hns32_0 hns32_1 hms32_0 hms32_1 hs33 hfs33 hns33_0 hns33_1 hms33_0 hms33_1 hs34 hfs34 hns34_0 hns34_1 hms34_0 hms34_1 hs35 hfs35 hns35_0 hns35_1 hms35_0 hms35_1 hs36 hfs36 hns36_0 hns36_1 hms36_0 hms36_1 hs37 hfs37 hns37_0 hns37_1 hms37_0 hms37_1 hs38 hfs38 hns38_0 hns38_1 hms38_0 hms38_1 hs39 hfs39 hns39_0 hns39_1 hms39_0 hms39_1
         refine done_ (by kernel_rfl) ?_
         have hnb40 := NB114_113.out
         have hnc40 := NB113_114.out
         have hnb41 := NB114_115.out
         have hnc41 := NB115_114.out
         have hcz42_0 : w19.cell? ⟨gb114, 0, none⟩ = some (.int .i64 0) := (blk_cell BK114.out 0).trans rfl
         have hcz42_1 : w19.cell? ⟨gb114, 1, none⟩ = some (.int .i64 0) := (blk_cell BK114.out 1).trans rfl
         have hcz42_2 : w19.cell? ⟨gb114, 2, none⟩ = some (.int .i64 0) := (blk_cell BK114.out 2).trans rfl
         have hcz42_3 : w19.cell? ⟨gb114, 3, none⟩ = some (.int .i64 0) := (blk_cell BK114.out 3).trans rfl
         have hcz42_4 : w19.cell? ⟨gb114, 4, none⟩ = some (.int .i64 0) := (blk_cell BK114.out 4).trans rfl
         have hcz42_5 : w19.cell? ⟨gb114, 5, none⟩ = some (.int .i64 0) := (blk_cell BK114.out 5).trans rfl
         have hcz42_6 : w19.cell? ⟨gb114, 6, none⟩ = some (.int .i64 0) := (blk_cell BK114.out 6).trans rfl
         have hcz42_7 : w19.cell? ⟨gb114, 7, none⟩ = some (.int .i64 0) := (blk_cell BK114.out 7).trans rfl
         have hcz42_8 : w19.cell? ⟨gb114, 8, none⟩ = some (.int .i64 0) := (blk_cell BK114.out 8).trans rfl
         have hcz42_9 : w19.cell? ⟨gb114, 9, none⟩ = some (.int .i64 0) := (blk_cell BK114.out 9).trans rfl
         have hfz42_0 := blk_frozen BK114.out 0
         have hfz42_1 := blk_frozen BK114.out 1
         have hfz42_2 := blk_frozen BK114.out 2
         have hfz42_3 := blk_frozen BK114.out 3
         have hfz42_4 := blk_frozen BK114.out 4
         have hfz42_5 := blk_frozen BK114.out 5
         have hfz42_6 := blk_frozen BK114.out 6
         have hfz42_7 := blk_frozen BK114.out 7
         have hfz42_8 := blk_frozen BK114.out 8
         have hfz42_9 := blk_frozen BK114.out 9
         try go_wp2_with (first | ((with_reducible refine gate_store (t := 3) (p := 13) rfl ?_); refine store_event (t := 3) (p := 13) (v := ?vo_w43) (w1 := (((((((((((((((((((((w19.setCell ⟨gb114, 0, none⟩ (.int .i64 a0_0)).setCell ⟨gb114, 1, none⟩ (.int .i64 a0_1)).setCell ⟨gb114, 2, none⟩ (.int .i64 a0_2)).setCell ⟨gb114, 3, none⟩ (.int .i64 a0_3)).setCell ⟨gb114, 4, none⟩ (.int .i64 a0_4)).setCell ⟨gb114, 5, none⟩ (.int .i64 a0_5)).setCell ⟨gb114, 6, none⟩ (.int .i64 a0_6)).setCell ⟨gb114, 7, none⟩ (.int .i64 a0_7)).setCell ⟨gb114, 8, none⟩ (.int .i64 a0_8)).setCell ⟨gb114, 9, none⟩ (.int .i64 a0_9)).setCell ⟨gb115, 0, none⟩ (.int .i64 a0_0)).setCell ⟨gb115, 1, none⟩ (.int .i64 a0_1)).setCell ⟨gb115, 2, none⟩ (.int .i64 a0_2)).setCell ⟨gb115, 3, none⟩ (.int .i64 a0_3)).setCell ⟨gb115, 4, none⟩ (.int .i64 a0_4)).setCell ⟨gb115, 5, none⟩ (.int .i64 a0_5)).setCell ⟨gb115, 6, none⟩ (.int .i64 a0_6)).setCell ⟨gb115, 7, none⟩ (.int .i64 a0_7)).setCell ⟨gb115, 8, none⟩ (.int .i64 a0_8)).setCell ⟨gb115, 9, none⟩ (.int .i64 a0_9)).setCell ⟨gb114, 1, none⟩ (.int .i64 1))) ?hg ?ho ?hn ?hr ?_; (case ho => rfl); (case hg => rfl); (case hn => rfl); (case hr => first | (go_simp; done) | (go_simp; rfl)); intro w43 hw; have n0_ : Aside0 (w43.heap[gb113]? = some (.cells #[.int .i64 a0_0, .int .i64 a0_1, .int .i64 a0_2, .int .i64 a0_3, .int .i64 a0_4, .int .i64 a0_5, .int .i64 a0_6, .int .i64 a0_7, .int .i64 a0_8, .int .i64 a0_9] 26 (0, 0))) := ⟨(by rw [hw]; exact (by (with_reducible repeat (first | refine blk_drewN ?_ _ | refine blk_drew ?_ | refine blk_alloc ?_ _)); refine blk_far ?_ NB113_114.out _; refine blk_far10_ ?_ NB113_115.out; refine blk_far10_ ?_ NB113_114.out; exact BK113.out))⟩; have n1_ : Aside0 (w43.heap[gb114]? = some (.cells #[.int .i64 a0_0, .int .i64 1, .int .i64 a0_2, .int .i64 a0_3, .int .i64 a0_4, .int .i64 a0_5, .int .i64 a0_6, .int .i64 a0_7, .int .i64 a0_8, .int .i64 a0_9] 26 (0, 0))) := ⟨(by rw [hw]; exact (by (with_reducible repeat (first | refine blk_drewN ?_ _ | refine blk_drew ?_ | refine blk_alloc ?_ _)); refine blk_put (cs := #[.int .i64 a0_0, .int .i64 a0_1, .int .i64 a0_2, .int .i64 a0_3, .int .i64 a0_4, .int .i64 a0_5, .int .i64 a0_6, .int .i64 a0_7, .int .i64 a0_8, .int .i64 a0_9]) ?_ 1 _ rfl; refine blk_far10_ ?_ NB114_115.out; apply blk_fill10_; exact BK114.out))⟩; have n2_ : Aside0 (w43.heap[gb115]? = some (.cells #[.int .i64 a0_0, .int .i64 a0_1, .int .i64 a0_2, .int .i64 a0_3, .int .i64 a0_4, .int .i64 a0_5, .int .i64 a0_6, .int .i64 a0_7, .int .i64 a0_8, .int .i64 a0_9] 26 (0, 0))) := ⟨(by rw [hw]; exact (by (with_reducible repeat (first | refine blk_drewN ?_ _ | refine blk_drew ?_ | refine blk_alloc ?_ _)); refine blk_far ?_ NB115_114.out _; apply blk_fill10_; refine blk_far10_ ?_ NB115_114.out; exact BK115.out))⟩; have n3_ : Aside0 (Below w.heap.size w w43) := ⟨(by rw [hw]; exact (by repeat (first | (with_reducible first | exact HB.out | apply below_alloc | apply pw_below_drewN | apply below_drew1 | refine below_set ?_ GE113.out | refine below_set ?_ GE114.out | refine below_set ?_ GE115.out) | exact HB.out)))⟩; clear hw; clear BK113; clear BK114; clear BK115; clear HB; have BK113 := n0_; have BK114 := n1_; have BK115 := n2_; have HB := n3_; clear n0_ n1_ n2_ n3_; have hnb44 := NB115_113.out; have hnc44 := NB113_115.out; have hcz45_0 : w43.cell? ⟨gb115, 0, none⟩ = some (.int .i64 a0_0) := (blk_cell BK115.out 0).trans rfl; have hcz45_1 : w43.cell? ⟨gb115, 1, none⟩ = some (.int .i64 a0_1) := (blk_cell BK115.out 1).trans rfl; have hcz45_2 : w43.cell? ⟨gb115, 2, none⟩ = some (.int .i64 a0_2) := (blk_cell BK115.out 2).trans rfl; have hcz45_3 : w43.cell? ⟨gb115, 3, none⟩ = some (.int .i64 a0_3) := (blk_cell BK115.out 3).trans rfl; have hcz45_4 : w43.cell? ⟨gb115, 4, none⟩ = some (.int .i64 a0_4) := (blk_cell BK115.out 4).trans rfl; have hcz45_5 : w43.cell? ⟨gb115, 5, none⟩ = some (.int .i64 a0_5) := (blk_cell BK115.out 5).trans rfl; have hcz45_6 : w43.cell? ⟨gb115, 6, none⟩ = some (.int .i64 a0_6) := (blk_cell BK115.out 6).trans rfl; have hcz45_7 : w43.cell? ⟨gb115, 7, none⟩ = some (.int .i64 a0_7) := (blk_cell BK115.out 7).trans rfl; have hcz45_8 : w43.cell? ⟨gb115, 8, none⟩ = some (.int .i64 a0_8) := (blk_cell BK115.out 8).trans rfl; have hcz45_9 : w43.cell? ⟨gb115, 9, none⟩ = some (.int .i64 a0_9) := (blk_cell BK115.out 9).trans rfl; have hfz45_0 := blk_frozen BK115.out 0; have hfz45_1 := blk_frozen BK115.out 1; have hfz45_2 := blk_frozen BK115.out 2; have hfz45_3 := blk_frozen BK115.out 3; have hfz45_4 := blk_frozen BK115.out 4; have hfz45_5 := blk_frozen BK115.out 5; have hfz45_6 := blk_frozen BK115.out 6; have hfz45_7 := blk_frozen BK115.out 7; have hfz45_8 := blk_frozen BK115.out 8; have hfz45_9 := blk_frozen BK115.out 9))
         have n0_ : Aside0 ((w43.setCell ⟨gb115, 1, none⟩ (.int .i64 1)).heap[gb113]? = some (.cells #[.int .i64 a0_0, .int .i64 a0_1, .int .i64 a0_2, .int .i64 a0_3, .int .i64 a0_4, .int .i64 a0_5, .int .i64 a0_6, .int .i64 a0_7, .int .i64 a0_8, .int .i64 a0_9] 26 (0, 0))) := ⟨by (with_reducible repeat (first | refine blk_drewN ?_ _ | refine blk_drew ?_ | refine blk_alloc ?_ _)); refine blk_far ?_ NB113_115.out _; exact BK113.out⟩
         have n1_ : Aside0 ((w43.setCell ⟨gb115, 1, none⟩ (.int .i64 1)).heap[gb114]? = some (.cells #[.int .i64 a0_0, .int .i64 1, .int .i64 a0_2, .int .i64 a0_3, .int .i64 a0_4, .int .i64 a0_5, .int .i64 a0_6, .int .i64 a0_7, .int .i64 a0_8, .int .i64 a0_9] 26 (0, 0))) := ⟨by (with_reducible repeat (first | refine blk_drewN ?_ _ | refine blk_drew ?_ | refine blk_alloc ?_ _)); refine blk_far ?_ NB114_115.out _; exact BK114.out⟩
         have n2_ : Aside0 ((w43.setCell ⟨gb115, 1, none⟩ (.int .i64 1)).heap[gb115]? = some (.cells #[.int .i64 a0_0, .int .i64 1, .int .i64 a0_2, .int .i64 a0_3, .int .i64 a0_4, .int .i64 a0_5, .int .i64 a0_6, .int .i64 a0_7, .int .i64 a0_8, .int .i64 a0_9] 26 (0, 0))) := ⟨by (with_reducible repeat (first | refine blk_drewN ?_ _ | refine blk_drew ?_ | refine blk_alloc ?_ _)); refine blk_put (cs := #[.int .i64 a0_0, .int .i64 a0_1, .int .i64 a0_2, .int .i64 a0_3, .int .i64 a0_4, .int .i64 a0_5, .int .i64 a0_6, .int .i64 a0_7, .int .i64 a0_8, .int .i64 a0_9]) ?_ 1 _ rfl; exact BK115.out⟩
         have n3_ : Aside0 (Below w.heap.size w (w43.setCell ⟨gb115, 1, none⟩ (.int .i64 1))) := ⟨by repeat (first | (with_reducible first | exact HB.out | apply below_alloc | apply pw_below_drewN | apply below_drew1 | refine below_set ?_ GE113.out | refine below_set ?_ GE114.out | refine below_set ?_ GE115.out) | exact HB.out)⟩
         (try clear BK113)
         (try clear BK114)
         (try clear BK115)
         (try clear HB)
         generalize (w43.setCell ⟨gb115, 1, none⟩ (.int .i64 1)) = w46 at n0_ n1_ n2_ n3_ ⊢
         clear hnb40 hnc40 hnb41 hnc41 hcz42_0 hcz42_1 hcz42_2 hcz42_3 hcz42_4 hcz42_5 hcz42_6 hcz42_7 hcz42_8 hcz42_9 hfz42_0 hfz42_1 hfz42_2 hfz42_3 hfz42_4 hfz42_5 hfz42_6 hfz42_7 hfz42_8 hfz42_9
         have BK113 := n0_
         have BK114 := n1_
         have BK115 := n2_
         have HB := n3_
         clear n0_ n1_ n2_ n3_
         have n0_ := Aside0.mk (blk_drew BK113.out)
         have n1_ := Aside0.mk (blk_drew BK114.out)
         have n2_ := Aside0.mk (blk_drew BK115.out)
         have n3_ := Aside0.mk (below_drew1 HB.out)
         clear BK113
         clear BK114
         clear BK115
         clear HB
         have BK113 := n0_
         have BK114 := n1_
         have BK115 := n2_
         have HB := n3_
         clear n0_ n1_ n2_ n3_
         refine start_ (n := 8) (S := fun w' => w'.cell? ⟨gb114, 0, none⟩ = some (.int .i64 a0_0) ∧ w'.cell? ⟨gb114, 1, none⟩ = some (.int .i64 1) ∧ w'.cell? ⟨gb114, 2, none⟩ = some (.int .i64 a0_2) ∧ w'.cell? ⟨gb114, 3, none⟩ = some (.int .i64 a0_3) ∧ w'.cell? ⟨gb114, 4, none⟩ = some (.int .i64 a0_4) ∧ w'.cell? ⟨gb114, 5, none⟩ = some (.int .i64 a0_5) ∧ w'.cell? ⟨gb114, 6, none⟩ = some (.int .i64 a0_6) ∧ w'.cell? ⟨gb114, 7, none⟩ = some (.int .i64 a0_7) ∧ w'.cell? ⟨gb114, 8, none⟩ = some (.int .i64 a0_8) ∧ w'.cell? ⟨gb114, 9, none⟩ = some (.int .i64 a0_9) ∧ w'.cell? ⟨gb115, 0, none⟩ = some (.int .i64 a0_0) ∧ w'.cell? ⟨gb115, 1, none⟩ = some (.int .i64 1) ∧ w'.cell? ⟨gb115, 2, none⟩ = some (.int .i64 a0_2) ∧ w'.cell? ⟨gb115, 3, none⟩ = some (.int .i64 a0_3) ∧ w'.cell? ⟨gb115, 4, none⟩ = some (.int .i64 a0_4) ∧ w'.cell? ⟨gb115, 5, none⟩ = some (.int .i64 a0_5) ∧ w'.cell? ⟨gb115, 6, none⟩ = some (.int .i64 a0_6) ∧ w'.cell? ⟨gb115, 7, none⟩ = some (.int .i64 a0_7) ∧ w'.cell? ⟨gb115, 8, none⟩ = some (.int .i64 a0_8) ∧ w'.cell? ⟨gb115, 9, none⟩ = some (.int .i64 a0_9)) (ds := []) #[Ff,Ff,Ff,Ff,Ff,Ff,Ff,Ff] (by kernel_rfl) rfl rfl ⟨(blk_cell BK114.out 0).trans rfl, (blk_cell BK114.out 1).trans rfl, (blk_cell BK114.out 2).trans rfl, (blk_cell BK114.out 3).trans rfl, (blk_cell BK114.out 4).trans rfl, (blk_cell BK114.out 5).trans rfl, (blk_cell BK114.out 6).trans rfl, (blk_cell BK114.out 7).trans rfl, (blk_cell BK114.out 8).trans rfl, (blk_cell BK114.out 9).trans rfl, (blk_cell BK115.out 0).trans rfl, (blk_cell BK115.out 1).trans rfl, (blk_cell BK115.out 2).trans rfl, (blk_cell BK115.out 3).trans rfl, (blk_cell BK115.out 4).trans rfl, (blk_cell BK115.out 5).trans rfl, (blk_cell BK115.out 6).trans rfl, (blk_cell BK115.out 7).trans rfl, (blk_cell BK115.out 8).trans rfl, (blk_cell BK115.out 9).trans rfl⟩ (fun hHeld => ?_); refine with_tabW ladderbacklaw09_CountHolds.tab4 ladderbacklaw09_CountHolds.bits4 (fun HT_ HW_ => ?_)
         generalize w46.drew = w47 at BK113 BK114 BK115 HB hHeld ⊢
         refine take_ (i := 0) (N := some 16) (v := ?_) (a' := ?_) #[Tt,Ff,Ff,Ff,Ff,Ff,Ff,Ff] rfl rfl (take_ofW HT_.out HW_.out (by kernel_rfl)) (fun _ _ _ h => h) (Or.inl ⟨by rfl, ?_⟩) hHeld ?_ ?_
         rotate_left
         ·
          rintro w' ⟨s0, s1, s2, s3, s4, s5, s6, s7, s8, s9, s10, s11, s12, s13, s14, s15, s16, s17, s18, s19⟩
          go_simp
          with_reducible rfl
         rotate_left
         ·
          simp only [Act.put, List.setIfInBounds_toArray, List.set_cons_zero, List.set_cons_succ, i64_w, i32_w]
          rfl
         refine take_ (i := 2) (N := some 18) (v := ?_) (a' := ?_) #[Tt,Ff,Tt,Ff,Ff,Ff,Ff,Ff] rfl rfl (take_ofW HT_.out HW_.out (by kernel_rfl)) (fun _ _ _ h => h) (Or.inl ⟨by rfl, ?_⟩) hHeld ?_ ?_
         rotate_left
         ·
          rintro w' ⟨s0, s1, s2, s3, s4, s5, s6, s7, s8, s9, s10, s11, s12, s13, s14, s15, s16, s17, s18, s19⟩
          go_simp
          with_reducible rfl
         rotate_left
         ·
          simp only [Act.put, List.setIfInBounds_toArray, List.set_cons_zero, List.set_cons_succ, i64_w, i32_w]
          rfl
         refine join_ (σ := Nat × Nat) 2 #[Tt,Tt,Tt,Tt,Tt,Tt,Ff,Ff] (fun s_ => [(17, .agg #[.int .i64 t116, .int .i64 t117, .int .i64 t118, .int .i64 t119, .int .i64 t120, .int .i64 t121, .int .i64 t122, .int .i64 t123, .int .i64 t124, .int .i64 t125]), (19, .agg #[.int .i64 t126, .int .i64 t127, .int .i64 t128, .int .i64 t129, .int .i64 t130, .int .i64 t131, .int .i64 t132, .int .i64 t133, .int .i64 t134, .int .i64 t135]), (5, .pointer (some ⟨s_.1, 0, none⟩)), (6, .pointer (some ⟨s_.2, 0, none⟩))]) (fun s_ w' => (w'.cell? ⟨gb114, 0, none⟩ = some (.int .i64 a0_0) ∧ w'.cell? ⟨gb114, 1, none⟩ = some (.int .i64 1) ∧ w'.cell? ⟨gb114, 2, none⟩ = some (.int .i64 a0_2) ∧ w'.cell? ⟨gb114, 3, none⟩ = some (.int .i64 a0_3) ∧ w'.cell? ⟨gb114, 4, none⟩ = some (.int .i64 a0_4) ∧ w'.cell? ⟨gb114, 5, none⟩ = some (.int .i64 a0_5) ∧ w'.cell? ⟨gb114, 6, none⟩ = some (.int .i64 a0_6) ∧ w'.cell? ⟨gb114, 7, none⟩ = some (.int .i64 a0_7) ∧ w'.cell? ⟨gb114, 8, none⟩ = some (.int .i64 a0_8) ∧ w'.cell? ⟨gb114, 9, none⟩ = some (.int .i64 a0_9) ∧ w'.cell? ⟨gb115, 0, none⟩ = some (.int .i64 a0_0) ∧ w'.cell? ⟨gb115, 1, none⟩ = some (.int .i64 1) ∧ w'.cell? ⟨gb115, 2, none⟩ = some (.int .i64 a0_2) ∧ w'.cell? ⟨gb115, 3, none⟩ = some (.int .i64 a0_3) ∧ w'.cell? ⟨gb115, 4, none⟩ = some (.int .i64 a0_4) ∧ w'.cell? ⟨gb115, 5, none⟩ = some (.int .i64 a0_5) ∧ w'.cell? ⟨gb115, 6, none⟩ = some (.int .i64 a0_6) ∧ w'.cell? ⟨gb115, 7, none⟩ = some (.int .i64 a0_7) ∧ w'.cell? ⟨gb115, 8, none⟩ = some (.int .i64 a0_8) ∧ w'.cell? ⟨gb115, 9, none⟩ = some (.int .i64 a0_9)) ∧ (w'.heap[gb113]? = some (.cells #[.int .i64 a0_0, .int .i64 a0_1, .int .i64 a0_2, .int .i64 a0_3, .int .i64 a0_4, .int .i64 a0_5, .int .i64 a0_6, .int .i64 a0_7, .int .i64 a0_8, .int .i64 a0_9] 26 (0, 0))) ∧ (w'.heap[gb114]? = some (.cells #[.int .i64 a0_0, .int .i64 1, .int .i64 a0_2, .int .i64 a0_3, .int .i64 a0_4, .int .i64 a0_5, .int .i64 a0_6, .int .i64 a0_7, .int .i64 a0_8, .int .i64 a0_9] 26 (0, 0))) ∧ (w'.heap[gb115]? = some (.cells #[.int .i64 a0_0, .int .i64 1, .int .i64 a0_2, .int .i64 a0_3, .int .i64 a0_4, .int .i64 a0_5, .int .i64 a0_6, .int .i64 a0_7, .int .i64 a0_8, .int .i64 a0_9] 26 (0, 0))) ∧ (w'.heap[s_.1]? = some (.cells #[.int .i64 0, .int .i64 0, .int .i64 0, .int .i64 0, .int .i64 0, .int .i64 0, .int .i64 0, .int .i64 0, .int .i64 0, .int .i64 0] 26 (0, 0))) ∧ (w'.heap[s_.2]? = some (.cells #[.int .i64 0, .int .i64 0, .int .i64 0, .int .i64 0, .int .i64 0, .int .i64 0, .int .i64 0, .int .i64 0, .int .i64 0, .int .i64 0] 26 (0, 0))) ∧ (w.heap.size ≤ s_.1) ∧ (w.heap.size ≤ s_.1) ∧ (gb113 ≠ s_.1) ∧ (s_.1 ≠ gb113) ∧ (gb114 ≠ s_.1) ∧ (s_.1 ≠ gb114) ∧ (gb115 ≠ s_.1) ∧ (s_.1 ≠ gb115) ∧ (s_.2 ≠ s_.1) ∧ (s_.1 ≠ s_.2) ∧ (w.heap.size ≤ s_.2) ∧ (w.heap.size ≤ s_.2) ∧ (gb113 ≠ s_.2) ∧ (s_.2 ≠ gb113) ∧ (gb114 ≠ s_.2) ∧ (s_.2 ≠ gb114) ∧ (gb115 ≠ s_.2) ∧ (s_.2 ≠ gb115) ∧ (Below w.heap.size w w')) ?_ ?_
         rotate_left
         ·
          intro hJ1_3_4_5
          refine join_ (σ := Nat) 3 #[Tt,Tt,Tt,Tt,Tt,Ff,Ff,Ff] (fun s_ => [(17, .agg #[.int .i64 t116, .int .i64 t117, .int .i64 t118, .int .i64 t119, .int .i64 t120, .int .i64 t121, .int .i64 t122, .int .i64 t123, .int .i64 t124, .int .i64 t125]), (19, .agg #[.int .i64 t126, .int .i64 t127, .int .i64 t128, .int .i64 t129, .int .i64 t130, .int .i64 t131, .int .i64 t132, .int .i64 t133, .int .i64 t134, .int .i64 t135]), (5, .pointer (some ⟨s_, 0, none⟩))]) (fun s_ w' => (w'.cell? ⟨gb114, 0, none⟩ = some (.int .i64 a0_0) ∧ w'.cell? ⟨gb114, 1, none⟩ = some (.int .i64 1) ∧ w'.cell? ⟨gb114, 2, none⟩ = some (.int .i64 a0_2) ∧ w'.cell? ⟨gb114, 3, none⟩ = some (.int .i64 a0_3) ∧ w'.cell? ⟨gb114, 4, none⟩ = some (.int .i64 a0_4) ∧ w'.cell? ⟨gb114, 5, none⟩ = some (.int .i64 a0_5) ∧ w'.cell? ⟨gb114, 6, none⟩ = some (.int .i64 a0_6) ∧ w'.cell? ⟨gb114, 7, none⟩ = some (.int .i64 a0_7) ∧ w'.cell? ⟨gb114, 8, none⟩ = some (.int .i64 a0_8) ∧ w'.cell? ⟨gb114, 9, none⟩ = some (.int .i64 a0_9) ∧ w'.cell? ⟨gb115, 0, none⟩ = some (.int .i64 a0_0) ∧ w'.cell? ⟨gb115, 1, none⟩ = some (.int .i64 1) ∧ w'.cell? ⟨gb115, 2, none⟩ = some (.int .i64 a0_2) ∧ w'.cell? ⟨gb115, 3, none⟩ = some (.int .i64 a0_3) ∧ w'.cell? ⟨gb115, 4, none⟩ = some (.int .i64 a0_4) ∧ w'.cell? ⟨gb115, 5, none⟩ = some (.int .i64 a0_5) ∧ w'.cell? ⟨gb115, 6, none⟩ = some (.int .i64 a0_6) ∧ w'.cell? ⟨gb115, 7, none⟩ = some (.int .i64 a0_7) ∧ w'.cell? ⟨gb115, 8, none⟩ = some (.int .i64 a0_8) ∧ w'.cell? ⟨gb115, 9, none⟩ = some (.int .i64 a0_9)) ∧ (w'.heap[gb113]? = some (.cells #[.int .i64 a0_0, .int .i64 a0_1, .int .i64 a0_2, .int .i64 a0_3, .int .i64 a0_4, .int .i64 a0_5, .int .i64 a0_6, .int .i64 a0_7, .int .i64 a0_8, .int .i64 a0_9] 26 (0, 0))) ∧ (w'.heap[gb114]? = some (.cells #[.int .i64 a0_0, .int .i64 1, .int .i64 a0_2, .int .i64 a0_3, .int .i64 a0_4, .int .i64 a0_5, .int .i64 a0_6, .int .i64 a0_7, .int .i64 a0_8, .int .i64 a0_9] 26 (0, 0))) ∧ (w'.heap[gb115]? = some (.cells #[.int .i64 a0_0, .int .i64 1, .int .i64 a0_2, .int .i64 a0_3, .int .i64 a0_4, .int .i64 a0_5, .int .i64 a0_6, .int .i64 a0_7, .int .i64 a0_8, .int .i64 a0_9] 26 (0, 0))) ∧ (w'.heap[s_]? = some (.cells #[.int .i64 0, .int .i64 0, .int .i64 0, .int .i64 0, .int .i64 0, .int .i64 0, .int .i64 0, .int .i64 0, .int .i64 0, .int .i64 0] 26 (0, 0))) ∧ (w.heap.size ≤ s_) ∧ (w.heap.size ≤ s_) ∧ (gb113 ≠ s_) ∧ (s_ ≠ gb113) ∧ (gb114 ≠ s_) ∧ (s_ ≠ gb114) ∧ (gb115 ≠ s_) ∧ (s_ ≠ gb115) ∧ (Below w.heap.size w w')) ?_ ?_
          rotate_left
          ·
           intro hJ1_3_4
           refine join_ (σ := Nat) 3 #[Tt,Tt,Tt,Tt,Ff,Tt,Ff,Ff] (fun s_ => [(17, .agg #[.int .i64 t116, .int .i64 t117, .int .i64 t118, .int .i64 t119, .int .i64 t120, .int .i64 t121, .int .i64 t122, .int .i64 t123, .int .i64 t124, .int .i64 t125]), (19, .agg #[.int .i64 t126, .int .i64 t127, .int .i64 t128, .int .i64 t129, .int .i64 t130, .int .i64 t131, .int .i64 t132, .int .i64 t133, .int .i64 t134, .int .i64 t135]), (6, .pointer (some ⟨s_, 0, none⟩))]) (fun s_ w' => (w'.cell? ⟨gb114, 0, none⟩ = some (.int .i64 a0_0) ∧ w'.cell? ⟨gb114, 1, none⟩ = some (.int .i64 1) ∧ w'.cell? ⟨gb114, 2, none⟩ = some (.int .i64 a0_2) ∧ w'.cell? ⟨gb114, 3, none⟩ = some (.int .i64 a0_3) ∧ w'.cell? ⟨gb114, 4, none⟩ = some (.int .i64 a0_4) ∧ w'.cell? ⟨gb114, 5, none⟩ = some (.int .i64 a0_5) ∧ w'.cell? ⟨gb114, 6, none⟩ = some (.int .i64 a0_6) ∧ w'.cell? ⟨gb114, 7, none⟩ = some (.int .i64 a0_7) ∧ w'.cell? ⟨gb114, 8, none⟩ = some (.int .i64 a0_8) ∧ w'.cell? ⟨gb114, 9, none⟩ = some (.int .i64 a0_9) ∧ w'.cell? ⟨gb115, 0, none⟩ = some (.int .i64 a0_0) ∧ w'.cell? ⟨gb115, 1, none⟩ = some (.int .i64 1) ∧ w'.cell? ⟨gb115, 2, none⟩ = some (.int .i64 a0_2) ∧ w'.cell? ⟨gb115, 3, none⟩ = some (.int .i64 a0_3) ∧ w'.cell? ⟨gb115, 4, none⟩ = some (.int .i64 a0_4) ∧ w'.cell? ⟨gb115, 5, none⟩ = some (.int .i64 a0_5) ∧ w'.cell? ⟨gb115, 6, none⟩ = some (.int .i64 a0_6) ∧ w'.cell? ⟨gb115, 7, none⟩ = some (.int .i64 a0_7) ∧ w'.cell? ⟨gb115, 8, none⟩ = some (.int .i64 a0_8) ∧ w'.cell? ⟨gb115, 9, none⟩ = some (.int .i64 a0_9)) ∧ (w'.heap[gb113]? = some (.cells #[.int .i64 a0_0, .int .i64 a0_1, .int .i64 a0_2, .int .i64 a0_3, .int .i64 a0_4, .int .i64 a0_5, .int .i64 a0_6, .int .i64 a0_7, .int .i64 a0_8, .int .i64 a0_9] 26 (0, 0))) ∧ (w'.heap[gb114]? = some (.cells #[.int .i64 a0_0, .int .i64 1, .int .i64 a0_2, .int .i64 a0_3, .int .i64 a0_4, .int .i64 a0_5, .int .i64 a0_6, .int .i64 a0_7, .int .i64 a0_8, .int .i64 a0_9] 26 (0, 0))) ∧ (w'.heap[gb115]? = some (.cells #[.int .i64 a0_0, .int .i64 1, .int .i64 a0_2, .int .i64 a0_3, .int .i64 a0_4, .int .i64 a0_5, .int .i64 a0_6, .int .i64 a0_7, .int .i64 a0_8, .int .i64 a0_9] 26 (0, 0))) ∧ (w'.heap[s_]? = some (.cells #[.int .i64 0, .int .i64 0, .int .i64 0, .int .i64 0, .int .i64 0, .int .i64 0, .int .i64 0, .int .i64 0, .int .i64 0, .int .i64 0] 26 (0, 0))) ∧ (w.heap.size ≤ s_) ∧ (w.heap.size ≤ s_) ∧ (gb113 ≠ s_) ∧ (s_ ≠ gb113) ∧ (gb114 ≠ s_) ∧ (s_ ≠ gb114) ∧ (gb115 ≠ s_) ∧ (s_ ≠ gb115) ∧ (Below w.heap.size w w')) ?_ ?_
           rotate_left
           ·
            intro hJ1_3_5
            refine join_ (σ := Nat × Nat) 3 #[Tt,Tt,Tt,Ff,Tt,Tt,Ff,Ff] (fun s_ => [(17, .agg #[.int .i64 t116, .int .i64 t117, .int .i64 t118, .int .i64 t119, .int .i64 t120, .int .i64 t121, .int .i64 t122, .int .i64 t123, .int .i64 t124, .int .i64 t125]), (5, .pointer (some ⟨s_.1, 0, none⟩)), (6, .pointer (some ⟨s_.2, 0, none⟩))]) (fun s_ w' => (w'.cell? ⟨gb114, 0, none⟩ = some (.int .i64 a0_0) ∧ w'.cell? ⟨gb114, 1, none⟩ = some (.int .i64 1) ∧ w'.cell? ⟨gb114, 2, none⟩ = some (.int .i64 a0_2) ∧ w'.cell? ⟨gb114, 3, none⟩ = some (.int .i64 a0_3) ∧ w'.cell? ⟨gb114, 4, none⟩ = some (.int .i64 a0_4) ∧ w'.cell? ⟨gb114, 5, none⟩ = some (.int .i64 a0_5) ∧ w'.cell? ⟨gb114, 6, none⟩ = some (.int .i64 a0_6) ∧ w'.cell? ⟨gb114, 7, none⟩ = some (.int .i64 a0_7) ∧ w'.cell? ⟨gb114, 8, none⟩ = some (.int .i64 a0_8) ∧ w'.cell? ⟨gb114, 9, none⟩ = some (.int .i64 a0_9) ∧ w'.cell? ⟨gb115, 0, none⟩ = some (.int .i64 a0_0) ∧ w'.cell? ⟨gb115, 1, none⟩ = some (.int .i64 1) ∧ w'.cell? ⟨gb115, 2, none⟩ = some (.int .i64 a0_2) ∧ w'.cell? ⟨gb115, 3, none⟩ = some (.int .i64 a0_3) ∧ w'.cell? ⟨gb115, 4, none⟩ = some (.int .i64 a0_4) ∧ w'.cell? ⟨gb115, 5, none⟩ = some (.int .i64 a0_5) ∧ w'.cell? ⟨gb115, 6, none⟩ = some (.int .i64 a0_6) ∧ w'.cell? ⟨gb115, 7, none⟩ = some (.int .i64 a0_7) ∧ w'.cell? ⟨gb115, 8, none⟩ = some (.int .i64 a0_8) ∧ w'.cell? ⟨gb115, 9, none⟩ = some (.int .i64 a0_9)) ∧ (w'.heap[gb113]? = some (.cells #[.int .i64 a0_0, .int .i64 a0_1, .int .i64 a0_2, .int .i64 a0_3, .int .i64 a0_4, .int .i64 a0_5, .int .i64 a0_6, .int .i64 a0_7, .int .i64 a0_8, .int .i64 a0_9] 26 (0, 0))) ∧ (w'.heap[gb114]? = some (.cells #[.int .i64 a0_0, .int .i64 1, .int .i64 a0_2, .int .i64 a0_3, .int .i64 a0_4, .int .i64 a0_5, .int .i64 a0_6, .int .i64 a0_7, .int .i64 a0_8, .int .i64 a0_9] 26 (0, 0))) ∧ (w'.heap[gb115]? = some (.cells #[.int .i64 a0_0, .int .i64 1, .int .i64 a0_2, .int .i64 a0_3, .int .i64 a0_4, .int .i64 a0_5, .int .i64 a0_6, .int .i64 a0_7, .int .i64 a0_8, .int .i64 a0_9] 26 (0, 0))) ∧ (w'.heap[s_.1]? = some (.cells #[.int .i64 0, .int .i64 0, .int .i64 0, .int .i64 0, .int .i64 0, .int .i64 0, .int .i64 0, .int .i64 0, .int .i64 0, .int .i64 0] 26 (0, 0))) ∧ (w'.heap[s_.2]? = some (.cells #[.int .i64 0, .int .i64 0, .int .i64 0, .int .i64 0, .int .i64 0, .int .i64 0, .int .i64 0, .int .i64 0, .int .i64 0, .int .i64 0] 26 (0, 0))) ∧ (w.heap.size ≤ s_.1) ∧ (w.heap.size ≤ s_.1) ∧ (gb113 ≠ s_.1) ∧ (s_.1 ≠ gb113) ∧ (gb114 ≠ s_.1) ∧ (s_.1 ≠ gb114) ∧ (gb115 ≠ s_.1) ∧ (s_.1 ≠ gb115) ∧ (s_.2 ≠ s_.1) ∧ (s_.1 ≠ s_.2) ∧ (w.heap.size ≤ s_.2) ∧ (w.heap.size ≤ s_.2) ∧ (gb113 ≠ s_.2) ∧ (s_.2 ≠ gb113) ∧ (gb114 ≠ s_.2) ∧ (s_.2 ≠ gb114) ∧ (gb115 ≠ s_.2) ∧ (s_.2 ≠ gb115) ∧ (Below w.heap.size w w')) ?_ ?_
            rotate_left
            ·
             intro hJ1_4_5
             refine join_ (σ := Unit) 4 #[Tt,Tt,Tt,Tt,Ff,Ff,Ff,Ff] (fun s_ => [(17, .agg #[.int .i64 t116, .int .i64 t117, .int .i64 t118, .int .i64 t119, .int .i64 t120, .int .i64 t121, .int .i64 t122, .int .i64 t123, .int .i64 t124, .int .i64 t125]), (19, .agg #[.int .i64 t126, .int .i64 t127, .int .i64 t128, .int .i64 t129, .int .i64 t130, .int .i64 t131, .int .i64 t132, .int .i64 t133, .int .i64 t134, .int .i64 t135])]) (fun s_ w' => (w'.cell? ⟨gb114, 0, none⟩ = some (.int .i64 a0_0) ∧ w'.cell? ⟨gb114, 1, none⟩ = some (.int .i64 1) ∧ w'.cell? ⟨gb114, 2, none⟩ = some (.int .i64 a0_2) ∧ w'.cell? ⟨gb114, 3, none⟩ = some (.int .i64 a0_3) ∧ w'.cell? ⟨gb114, 4, none⟩ = some (.int .i64 a0_4) ∧ w'.cell? ⟨gb114, 5, none⟩ = some (.int .i64 a0_5) ∧ w'.cell? ⟨gb114, 6, none⟩ = some (.int .i64 a0_6) ∧ w'.cell? ⟨gb114, 7, none⟩ = some (.int .i64 a0_7) ∧ w'.cell? ⟨gb114, 8, none⟩ = some (.int .i64 a0_8) ∧ w'.cell? ⟨gb114, 9, none⟩ = some (.int .i64 a0_9) ∧ w'.cell? ⟨gb115, 0, none⟩ = some (.int .i64 a0_0) ∧ w'.cell? ⟨gb115, 1, none⟩ = some (.int .i64 1) ∧ w'.cell? ⟨gb115, 2, none⟩ = some (.int .i64 a0_2) ∧ w'.cell? ⟨gb115, 3, none⟩ = some (.int .i64 a0_3) ∧ w'.cell? ⟨gb115, 4, none⟩ = some (.int .i64 a0_4) ∧ w'.cell? ⟨gb115, 5, none⟩ = some (.int .i64 a0_5) ∧ w'.cell? ⟨gb115, 6, none⟩ = some (.int .i64 a0_6) ∧ w'.cell? ⟨gb115, 7, none⟩ = some (.int .i64 a0_7) ∧ w'.cell? ⟨gb115, 8, none⟩ = some (.int .i64 a0_8) ∧ w'.cell? ⟨gb115, 9, none⟩ = some (.int .i64 a0_9)) ∧ (w'.heap[gb113]? = some (.cells #[.int .i64 a0_0, .int .i64 a0_1, .int .i64 a0_2, .int .i64 a0_3, .int .i64 a0_4, .int .i64 a0_5, .int .i64 a0_6, .int .i64 a0_7, .int .i64 a0_8, .int .i64 a0_9] 26 (0, 0))) ∧ (w'.heap[gb114]? = some (.cells #[.int .i64 a0_0, .int .i64 1, .int .i64 a0_2, .int .i64 a0_3, .int .i64 a0_4, .int .i64 a0_5, .int .i64 a0_6, .int .i64 a0_7, .int .i64 a0_8, .int .i64 a0_9] 26 (0, 0))) ∧ (w'.heap[gb115]? = some (.cells #[.int .i64 a0_0, .int .i64 1, .int .i64 a0_2, .int .i64 a0_3, .int .i64 a0_4, .int .i64 a0_5, .int .i64 a0_6, .int .i64 a0_7, .int .i64 a0_8, .int .i64 a0_9] 26 (0, 0))) ∧ (Below w.heap.size w w')) ?_ ?_
             rotate_left
             ·
              intro hJ1_3
              refine join_ (σ := Nat) 4 #[Tt,Tt,Tt,Ff,Tt,Ff,Ff,Ff] (fun s_ => [(17, .agg #[.int .i64 t116, .int .i64 t117, .int .i64 t118, .int .i64 t119, .int .i64 t120, .int .i64 t121, .int .i64 t122, .int .i64 t123, .int .i64 t124, .int .i64 t125]), (5, .pointer (some ⟨s_, 0, none⟩))]) (fun s_ w' => (w'.cell? ⟨gb114, 0, none⟩ = some (.int .i64 a0_0) ∧ w'.cell? ⟨gb114, 1, none⟩ = some (.int .i64 1) ∧ w'.cell? ⟨gb114, 2, none⟩ = some (.int .i64 a0_2) ∧ w'.cell? ⟨gb114, 3, none⟩ = some (.int .i64 a0_3) ∧ w'.cell? ⟨gb114, 4, none⟩ = some (.int .i64 a0_4) ∧ w'.cell? ⟨gb114, 5, none⟩ = some (.int .i64 a0_5) ∧ w'.cell? ⟨gb114, 6, none⟩ = some (.int .i64 a0_6) ∧ w'.cell? ⟨gb114, 7, none⟩ = some (.int .i64 a0_7) ∧ w'.cell? ⟨gb114, 8, none⟩ = some (.int .i64 a0_8) ∧ w'.cell? ⟨gb114, 9, none⟩ = some (.int .i64 a0_9) ∧ w'.cell? ⟨gb115, 0, none⟩ = some (.int .i64 a0_0) ∧ w'.cell? ⟨gb115, 1, none⟩ = some (.int .i64 1) ∧ w'.cell? ⟨gb115, 2, none⟩ = some (.int .i64 a0_2) ∧ w'.cell? ⟨gb115, 3, none⟩ = some (.int .i64 a0_3) ∧ w'.cell? ⟨gb115, 4, none⟩ = some (.int .i64 a0_4) ∧ w'.cell? ⟨gb115, 5, none⟩ = some (.int .i64 a0_5) ∧ w'.cell? ⟨gb115, 6, none⟩ = some (.int .i64 a0_6) ∧ w'.cell? ⟨gb115, 7, none⟩ = some (.int .i64 a0_7) ∧ w'.cell? ⟨gb115, 8, none⟩ = some (.int .i64 a0_8) ∧ w'.cell? ⟨gb115, 9, none⟩ = some (.int .i64 a0_9)) ∧ (w'.heap[gb113]? = some (.cells #[.int .i64 a0_0, .int .i64 a0_1, .int .i64 a0_2, .int .i64 a0_3, .int .i64 a0_4, .int .i64 a0_5, .int .i64 a0_6, .int .i64 a0_7, .int .i64 a0_8, .int .i64 a0_9] 26 (0, 0))) ∧ (w'.heap[gb114]? = some (.cells #[.int .i64 a0_0, .int .i64 1, .int .i64 a0_2, .int .i64 a0_3, .int .i64 a0_4, .int .i64 a0_5, .int .i64 a0_6, .int .i64 a0_7, .int .i64 a0_8, .int .i64 a0_9] 26 (0, 0))) ∧ (w'.heap[gb115]? = some (.cells #[.int .i64 a0_0, .int .i64 1, .int .i64 a0_2, .int .i64 a0_3, .int .i64 a0_4, .int .i64 a0_5, .int .i64 a0_6, .int .i64 a0_7, .int .i64 a0_8, .int .i64 a0_9] 26 (0, 0))) ∧ (w'.heap[s_]? = some (.cells #[.int .i64 0, .int .i64 0, .int .i64 0, .int .i64 0, .int .i64 0, .int .i64 0, .int .i64 0, .int .i64 0, .int .i64 0, .int .i64 0] 26 (0, 0))) ∧ (w.heap.size ≤ s_) ∧ (w.heap.size ≤ s_) ∧ (gb113 ≠ s_) ∧ (s_ ≠ gb113) ∧ (gb114 ≠ s_) ∧ (s_ ≠ gb114) ∧ (gb115 ≠ s_) ∧ (s_ ≠ gb115) ∧ (Below w.heap.size w w')) ?_ ?_
              rotate_left
              ·
               intro hJ1_4
               refine join_ (σ := Nat) 4 #[Tt,Tt,Tt,Ff,Ff,Tt,Ff,Ff] (fun s_ => [(17, .agg #[.int .i64 t116, .int .i64 t117, .int .i64 t118, .int .i64 t119, .int .i64 t120, .int .i64 t121, .int .i64 t122, .int .i64 t123, .int .i64 t124, .int .i64 t125]), (6, .pointer (some ⟨s_, 0, none⟩))]) (fun s_ w' => (w'.cell? ⟨gb114, 0, none⟩ = some (.int .i64 a0_0) ∧ w'.cell? ⟨gb114, 1, none⟩ = some (.int .i64 1) ∧ w'.cell? ⟨gb114, 2, none⟩ = some (.int .i64 a0_2) ∧ w'.cell? ⟨gb114, 3, none⟩ = some (.int .i64 a0_3) ∧ w'.cell? ⟨gb114, 4, none⟩ = some (.int .i64 a0_4) ∧ w'.cell? ⟨gb114, 5, none⟩ = some (.int .i64 a0_5) ∧ w'.cell? ⟨gb114, 6, none⟩ = some (.int .i64 a0_6) ∧ w'.cell? ⟨gb114, 7, none⟩ = some (.int .i64 a0_7) ∧ w'.cell? ⟨gb114, 8, none⟩ = some (.int .i64 a0_8) ∧ w'.cell? ⟨gb114, 9, none⟩ = some (.int .i64 a0_9) ∧ w'.cell? ⟨gb115, 0, none⟩ = some (.int .i64 a0_0) ∧ w'.cell? ⟨gb115, 1, none⟩ = some (.int .i64 1) ∧ w'.cell? ⟨gb115, 2, none⟩ = some (.int .i64 a0_2) ∧ w'.cell? ⟨gb115, 3, none⟩ = some (.int .i64 a0_3) ∧ w'.cell? ⟨gb115, 4, none⟩ = some (.int .i64 a0_4) ∧ w'.cell? ⟨gb115, 5, none⟩ = some (.int .i64 a0_5) ∧ w'.cell? ⟨gb115, 6, none⟩ = some (.int .i64 a0_6) ∧ w'.cell? ⟨gb115, 7, none⟩ = some (.int .i64 a0_7) ∧ w'.cell? ⟨gb115, 8, none⟩ = some (.int .i64 a0_8) ∧ w'.cell? ⟨gb115, 9, none⟩ = some (.int .i64 a0_9)) ∧ (w'.heap[gb113]? = some (.cells #[.int .i64 a0_0, .int .i64 a0_1, .int .i64 a0_2, .int .i64 a0_3, .int .i64 a0_4, .int .i64 a0_5, .int .i64 a0_6, .int .i64 a0_7, .int .i64 a0_8, .int .i64 a0_9] 26 (0, 0))) ∧ (w'.heap[gb114]? = some (.cells #[.int .i64 a0_0, .int .i64 1, .int .i64 a0_2, .int .i64 a0_3, .int .i64 a0_4, .int .i64 a0_5, .int .i64 a0_6, .int .i64 a0_7, .int .i64 a0_8, .int .i64 a0_9] 26 (0, 0))) ∧ (w'.heap[gb115]? = some (.cells #[.int .i64 a0_0, .int .i64 1, .int .i64 a0_2, .int .i64 a0_3, .int .i64 a0_4, .int .i64 a0_5, .int .i64 a0_6, .int .i64 a0_7, .int .i64 a0_8, .int .i64 a0_9] 26 (0, 0))) ∧ (w'.heap[s_]? = some (.cells #[.int .i64 0, .int .i64 0, .int .i64 0, .int .i64 0, .int .i64 0, .int .i64 0, .int .i64 0, .int .i64 0, .int .i64 0, .int .i64 0] 26 (0, 0))) ∧ (w.heap.size ≤ s_) ∧ (w.heap.size ≤ s_) ∧ (gb113 ≠ s_) ∧ (s_ ≠ gb113) ∧ (gb114 ≠ s_) ∧ (s_ ≠ gb114) ∧ (gb115 ≠ s_) ∧ (s_ ≠ gb115) ∧ (Below w.heap.size w w')) ?_ ?_
               rotate_left
               ·
                intro hJ1_5
                refine join_ (σ := Nat × Nat) 4 #[Tt,Ff,Tt,Ff,Tt,Tt,Ff,Ff] (fun s_ => [(5, .pointer (some ⟨s_.1, 0, none⟩)), (6, .pointer (some ⟨s_.2, 0, none⟩))]) (fun s_ w' => (w'.cell? ⟨gb114, 0, none⟩ = some (.int .i64 a0_0) ∧ w'.cell? ⟨gb114, 1, none⟩ = some (.int .i64 1) ∧ w'.cell? ⟨gb114, 2, none⟩ = some (.int .i64 a0_2) ∧ w'.cell? ⟨gb114, 3, none⟩ = some (.int .i64 a0_3) ∧ w'.cell? ⟨gb114, 4, none⟩ = some (.int .i64 a0_4) ∧ w'.cell? ⟨gb114, 5, none⟩ = some (.int .i64 a0_5) ∧ w'.cell? ⟨gb114, 6, none⟩ = some (.int .i64 a0_6) ∧ w'.cell? ⟨gb114, 7, none⟩ = some (.int .i64 a0_7) ∧ w'.cell? ⟨gb114, 8, none⟩ = some (.int .i64 a0_8) ∧ w'.cell? ⟨gb114, 9, none⟩ = some (.int .i64 a0_9) ∧ w'.cell? ⟨gb115, 0, none⟩ = some (.int .i64 a0_0) ∧ w'.cell? ⟨gb115, 1, none⟩ = some (.int .i64 1) ∧ w'.cell? ⟨gb115, 2, none⟩ = some (.int .i64 a0_2) ∧ w'.cell? ⟨gb115, 3, none⟩ = some (.int .i64 a0_3) ∧ w'.cell? ⟨gb115, 4, none⟩ = some (.int .i64 a0_4) ∧ w'.cell? ⟨gb115, 5, none⟩ = some (.int .i64 a0_5) ∧ w'.cell? ⟨gb115, 6, none⟩ = some (.int .i64 a0_6) ∧ w'.cell? ⟨gb115, 7, none⟩ = some (.int .i64 a0_7) ∧ w'.cell? ⟨gb115, 8, none⟩ = some (.int .i64 a0_8) ∧ w'.cell? ⟨gb115, 9, none⟩ = some (.int .i64 a0_9)) ∧ (w'.heap[gb113]? = some (.cells #[.int .i64 a0_0, .int .i64 a0_1, .int .i64 a0_2, .int .i64 a0_3, .int .i64 a0_4, .int .i64 a0_5, .int .i64 a0_6, .int .i64 a0_7, .int .i64 a0_8, .int .i64 a0_9] 26 (0, 0))) ∧ (w'.heap[gb114]? = some (.cells #[.int .i64 a0_0, .int .i64 1, .int .i64 a0_2, .int .i64 a0_3, .int .i64 a0_4, .int .i64 a0_5, .int .i64 a0_6, .int .i64 a0_7, .int .i64 a0_8, .int .i64 a0_9] 26 (0, 0))) ∧ (w'.heap[gb115]? = some (.cells #[.int .i64 a0_0, .int .i64 1, .int .i64 a0_2, .int .i64 a0_3, .int .i64 a0_4, .int .i64 a0_5, .int .i64 a0_6, .int .i64 a0_7, .int .i64 a0_8, .int .i64 a0_9] 26 (0, 0))) ∧ (w'.heap[s_.1]? = some (.cells #[.int .i64 0, .int .i64 0, .int .i64 0, .int .i64 0, .int .i64 0, .int .i64 0, .int .i64 0, .int .i64 0, .int .i64 0, .int .i64 0] 26 (0, 0))) ∧ (w'.heap[s_.2]? = some (.cells #[.int .i64 0, .int .i64 0, .int .i64 0, .int .i64 0, .int .i64 0, .int .i64 0, .int .i64 0, .int .i64 0, .int .i64 0, .int .i64 0] 26 (0, 0))) ∧ (w.heap.size ≤ s_.1) ∧ (w.heap.size ≤ s_.1) ∧ (gb113 ≠ s_.1) ∧ (s_.1 ≠ gb113) ∧ (gb114 ≠ s_.1) ∧ (s_.1 ≠ gb114) ∧ (gb115 ≠ s_.1) ∧ (s_.1 ≠ gb115) ∧ (s_.2 ≠ s_.1) ∧ (s_.1 ≠ s_.2) ∧ (w.heap.size ≤ s_.2) ∧ (w.heap.size ≤ s_.2) ∧ (gb113 ≠ s_.2) ∧ (s_.2 ≠ gb113) ∧ (gb114 ≠ s_.2) ∧ (s_.2 ≠ gb114) ∧ (gb115 ≠ s_.2) ∧ (s_.2 ≠ gb115) ∧ (Below w.heap.size w w')) ?_ ?_
                rotate_left
                ·
                 intro hJ4_5
                 refine join_ (σ := Unit) 5 #[Tt,Tt,Tt,Ff,Ff,Ff,Ff,Ff] (fun s_ => [(17, .agg #[.int .i64 t116, .int .i64 t117, .int .i64 t118, .int .i64 t119, .int .i64 t120, .int .i64 t121, .int .i64 t122, .int .i64 t123, .int .i64 t124, .int .i64 t125])]) (fun s_ w' => (w'.cell? ⟨gb114, 0, none⟩ = some (.int .i64 a0_0) ∧ w'.cell? ⟨gb114, 1, none⟩ = some (.int .i64 1) ∧ w'.cell? ⟨gb114, 2, none⟩ = some (.int .i64 a0_2) ∧ w'.cell? ⟨gb114, 3, none⟩ = some (.int .i64 a0_3) ∧ w'.cell? ⟨gb114, 4, none⟩ = some (.int .i64 a0_4) ∧ w'.cell? ⟨gb114, 5, none⟩ = some (.int .i64 a0_5) ∧ w'.cell? ⟨gb114, 6, none⟩ = some (.int .i64 a0_6) ∧ w'.cell? ⟨gb114, 7, none⟩ = some (.int .i64 a0_7) ∧ w'.cell? ⟨gb114, 8, none⟩ = some (.int .i64 a0_8) ∧ w'.cell? ⟨gb114, 9, none⟩ = some (.int .i64 a0_9) ∧ w'.cell? ⟨gb115, 0, none⟩ = some (.int .i64 a0_0) ∧ w'.cell? ⟨gb115, 1, none⟩ = some (.int .i64 1) ∧ w'.cell? ⟨gb115, 2, none⟩ = some (.int .i64 a0_2) ∧ w'.cell? ⟨gb115, 3, none⟩ = some (.int .i64 a0_3) ∧ w'.cell? ⟨gb115, 4, none⟩ = some (.int .i64 a0_4) ∧ w'.cell? ⟨gb115, 5, none⟩ = some (.int .i64 a0_5) ∧ w'.cell? ⟨gb115, 6, none⟩ = some (.int .i64 a0_6) ∧ w'.cell? ⟨gb115, 7, none⟩ = some (.int .i64 a0_7) ∧ w'.cell? ⟨gb115, 8, none⟩ = some (.int .i64 a0_8) ∧ w'.cell? ⟨gb115, 9, none⟩ = some (.int .i64 a0_9)) ∧ (w'.heap[gb113]? = some (.cells #[.int .i64 a0_0, .int .i64 a0_1, .int .i64 a0_2, .int .i64 a0_3, .int .i64 a0_4, .int .i64 a0_5, .int .i64 a0_6, .int .i64 a0_7, .int .i64 a0_8, .int .i64 a0_9] 26 (0, 0))) ∧ (w'.heap[gb114]? = some (.cells #[.int .i64 a0_0, .int .i64 1, .int .i64 a0_2, .int .i64 a0_3, .int .i64 a0_4, .int .i64 a0_5, .int .i64 a0_6, .int .i64 a0_7, .int .i64 a0_8, .int .i64 a0_9] 26 (0, 0))) ∧ (w'.heap[gb115]? = some (.cells #[.int .i64 a0_0, .int .i64 1, .int .i64 a0_2, .int .i64 a0_3, .int .i64 a0_4, .int .i64 a0_5, .int .i64 a0_6, .int .i64 a0_7, .int .i64 a0_8, .int .i64 a0_9] 26 (0, 0))) ∧ (Below w.heap.size w w')) ?_ ?_
                 rotate_left
                 ·
                  intro hJ1
                  refine join_ (σ := Nat) 5 #[Tt,Ff,Tt,Ff,Tt,Ff,Ff,Ff] (fun s_ => [(5, .pointer (some ⟨s_, 0, none⟩))]) (fun s_ w' => (w'.cell? ⟨gb114, 0, none⟩ = some (.int .i64 a0_0) ∧ w'.cell? ⟨gb114, 1, none⟩ = some (.int .i64 1) ∧ w'.cell? ⟨gb114, 2, none⟩ = some (.int .i64 a0_2) ∧ w'.cell? ⟨gb114, 3, none⟩ = some (.int .i64 a0_3) ∧ w'.cell? ⟨gb114, 4, none⟩ = some (.int .i64 a0_4) ∧ w'.cell? ⟨gb114, 5, none⟩ = some (.int .i64 a0_5) ∧ w'.cell? ⟨gb114, 6, none⟩ = some (.int .i64 a0_6) ∧ w'.cell? ⟨gb114, 7, none⟩ = some (.int .i64 a0_7) ∧ w'.cell? ⟨gb114, 8, none⟩ = some (.int .i64 a0_8) ∧ w'.cell? ⟨gb114, 9, none⟩ = some (.int .i64 a0_9) ∧ w'.cell? ⟨gb115, 0, none⟩ = some (.int .i64 a0_0) ∧ w'.cell? ⟨gb115, 1, none⟩ = some (.int .i64 1) ∧ w'.cell? ⟨gb115, 2, none⟩ = some (.int .i64 a0_2) ∧ w'.cell? ⟨gb115, 3, none⟩ = some (.int .i64 a0_3) ∧ w'.cell? ⟨gb115, 4, none⟩ = some (.int .i64 a0_4) ∧ w'.cell? ⟨gb115, 5, none⟩ = some (.int .i64 a0_5) ∧ w'.cell? ⟨gb115, 6, none⟩ = some (.int .i64 a0_6) ∧ w'.cell? ⟨gb115, 7, none⟩ = some (.int .i64 a0_7) ∧ w'.cell? ⟨gb115, 8, none⟩ = some (.int .i64 a0_8) ∧ w'.cell? ⟨gb115, 9, none⟩ = some (.int .i64 a0_9)) ∧ (w'.heap[gb113]? = some (.cells #[.int .i64 a0_0, .int .i64 a0_1, .int .i64 a0_2, .int .i64 a0_3, .int .i64 a0_4, .int .i64 a0_5, .int .i64 a0_6, .int .i64 a0_7, .int .i64 a0_8, .int .i64 a0_9] 26 (0, 0))) ∧ (w'.heap[gb114]? = some (.cells #[.int .i64 a0_0, .int .i64 1, .int .i64 a0_2, .int .i64 a0_3, .int .i64 a0_4, .int .i64 a0_5, .int .i64 a0_6, .int .i64 a0_7, .int .i64 a0_8, .int .i64 a0_9] 26 (0, 0))) ∧ (w'.heap[gb115]? = some (.cells #[.int .i64 a0_0, .int .i64 1, .int .i64 a0_2, .int .i64 a0_3, .int .i64 a0_4, .int .i64 a0_5, .int .i64 a0_6, .int .i64 a0_7, .int .i64 a0_8, .int .i64 a0_9] 26 (0, 0))) ∧ (w'.heap[s_]? = some (.cells #[.int .i64 0, .int .i64 0, .int .i64 0, .int .i64 0, .int .i64 0, .int .i64 0, .int .i64 0, .int .i64 0, .int .i64 0, .int .i64 0] 26 (0, 0))) ∧ (w.heap.size ≤ s_) ∧ (w.heap.size ≤ s_) ∧ (gb113 ≠ s_) ∧ (s_ ≠ gb113) ∧ (gb114 ≠ s_) ∧ (s_ ≠ gb114) ∧ (gb115 ≠ s_) ∧ (s_ ≠ gb115) ∧ (Below w.heap.size w w')) ?_ ?_
                  rotate_left
                  ·
                   intro hJ4
                   refine join_ (σ := Nat) 5 #[Tt,Ff,Tt,Ff,Ff,Tt,Ff,Ff] (fun s_ => [(6, .pointer (some ⟨s_, 0, none⟩))]) (fun s_ w' => (w'.cell? ⟨gb114, 0, none⟩ = some (.int .i64 a0_0) ∧ w'.cell? ⟨gb114, 1, none⟩ = some (.int .i64 1) ∧ w'.cell? ⟨gb114, 2, none⟩ = some (.int .i64 a0_2) ∧ w'.cell? ⟨gb114, 3, none⟩ = some (.int .i64 a0_3) ∧ w'.cell? ⟨gb114, 4, none⟩ = some (.int .i64 a0_4) ∧ w'.cell? ⟨gb114, 5, none⟩ = some (.int .i64 a0_5) ∧ w'.cell? ⟨gb114, 6, none⟩ = some (.int .i64 a0_6) ∧ w'.cell? ⟨gb114, 7, none⟩ = some (.int .i64 a0_7) ∧ w'.cell? ⟨gb114, 8, none⟩ = some (.int .i64 a0_8) ∧ w'.cell? ⟨gb114, 9, none⟩ = some (.int .i64 a0_9) ∧ w'.cell? ⟨gb115, 0, none⟩ = some (.int .i64 a0_0) ∧ w'.cell? ⟨gb115, 1, none⟩ = some (.int .i64 1) ∧ w'.cell? ⟨gb115, 2, none⟩ = some (.int .i64 a0_2) ∧ w'.cell? ⟨gb115, 3, none⟩ = some (.int .i64 a0_3) ∧ w'.cell? ⟨gb115, 4, none⟩ = some (.int .i64 a0_4) ∧ w'.cell? ⟨gb115, 5, none⟩ = some (.int .i64 a0_5) ∧ w'.cell? ⟨gb115, 6, none⟩ = some (.int .i64 a0_6) ∧ w'.cell? ⟨gb115, 7, none⟩ = some (.int .i64 a0_7) ∧ w'.cell? ⟨gb115, 8, none⟩ = some (.int .i64 a0_8) ∧ w'.cell? ⟨gb115, 9, none⟩ = some (.int .i64 a0_9)) ∧ (w'.heap[gb113]? = some (.cells #[.int .i64 a0_0, .int .i64 a0_1, .int .i64 a0_2, .int .i64 a0_3, .int .i64 a0_4, .int .i64 a0_5, .int .i64 a0_6, .int .i64 a0_7, .int .i64 a0_8, .int .i64 a0_9] 26 (0, 0))) ∧ (w'.heap[gb114]? = some (.cells #[.int .i64 a0_0, .int .i64 1, .int .i64 a0_2, .int .i64 a0_3, .int .i64 a0_4, .int .i64 a0_5, .int .i64 a0_6, .int .i64 a0_7, .int .i64 a0_8, .int .i64 a0_9] 26 (0, 0))) ∧ (w'.heap[gb115]? = some (.cells #[.int .i64 a0_0, .int .i64 1, .int .i64 a0_2, .int .i64 a0_3, .int .i64 a0_4, .int .i64 a0_5, .int .i64 a0_6, .int .i64 a0_7, .int .i64 a0_8, .int .i64 a0_9] 26 (0, 0))) ∧ (w'.heap[s_]? = some (.cells #[.int .i64 0, .int .i64 0, .int .i64 0, .int .i64 0, .int .i64 0, .int .i64 0, .int .i64 0, .int .i64 0, .int .i64 0, .int .i64 0] 26 (0, 0))) ∧ (w.heap.size ≤ s_) ∧ (w.heap.size ≤ s_) ∧ (gb113 ≠ s_) ∧ (s_ ≠ gb113) ∧ (gb114 ≠ s_) ∧ (s_ ≠ gb114) ∧ (gb115 ≠ s_) ∧ (s_ ≠ gb115) ∧ (Below w.heap.size w w')) ?_ ?_
                   rotate_left
                   ·
                    intro hJ5
                    refine three_ (i := 1) (j := 4) (k := 5) (Ni := some 17) (Nj := some 5) (Nk := some 6) #[Tt,Tt,Tt,Ff,Ff,Ff,Ff,Ff] #[Tt,Ff,Tt,Ff,Tt,Ff,Ff,Ff] #[Tt,Ff,Tt,Ff,Ff,Tt,Ff,Ff] rfl rfl rfl rfl rfl rfl (three_of HT_.out (by kernel_rfl)) (by decide) (by decide) (by decide) (fun K hK => ?_) (fun K hK => ?_) (fun K hK => ?_)
                    ·
                     skip
                     refine goes_ Try.func10 (by kernel_rfl) rfl #[.int .i64 4, .agg #[.int .i64 a0_0, .int .i64 1, .int .i64 a0_2, .int .i64 a0_3, .int .i64 a0_4, .int .i64 a0_5, .int .i64 a0_6, .int .i64 a0_7, .int .i64 a0_8, .int .i64 a0_9]] (by rfl) rfl rfl (by (try simp only [List.map_toArray, List.map_cons, List.map_nil]); first | done | rfl | (simp only [List.length_drop, List.length_take]; rfl)) ?_
                     with_reducible refine (count_Step.calls 4 a0_0 1 a0_2 a0_3 a0_4 a0_5 a0_6 a0_7 a0_8 a0_9 t116 t117 t118 t119 t120 t121 t122 t123 t124 t125 _ A2.out).mono ?_
                     rintro e w48 ⟨rfl, hb⟩
                     refine ⟨_, rfl, ?_⟩
                     have n0_ := blkB_ hb BK113
                     have n1_ := blkB_ hb BK114
                     have n2_ := blkB_ hb BK115
                     have n3_ := Aside0.mk (below_step (by repeat (first | (with_reducible first | exact HB.out | apply below_alloc | apply pw_below_drewN | apply below_drew1 | refine below_set ?_ GE113.out | refine below_set ?_ GE114.out | refine below_set ?_ GE115.out) | exact HB.out)) hb)
                     clear BK113
                     clear BK114
                     clear BK115
                     clear HB
                     have BK113 := n0_
                     have BK114 := n1_
                     have BK115 := n2_
                     have HB := n3_
                     clear n0_ n1_ n2_ n3_
                     (try clear hb)
                     (try clear hb2)
                     (try clear hk)
                     (try clear hi)
                     refine hK.out _ _ ⟨(blk_cell BK114.out 0).trans rfl, (blk_cell BK114.out 1).trans rfl, (blk_cell BK114.out 2).trans rfl, (blk_cell BK114.out 3).trans rfl, (blk_cell BK114.out 4).trans rfl, (blk_cell BK114.out 5).trans rfl, (blk_cell BK114.out 6).trans rfl, (blk_cell BK114.out 7).trans rfl, (blk_cell BK114.out 8).trans rfl, (blk_cell BK114.out 9).trans rfl, (blk_cell BK115.out 0).trans rfl, (blk_cell BK115.out 1).trans rfl, (blk_cell BK115.out 2).trans rfl, (blk_cell BK115.out 3).trans rfl, (blk_cell BK115.out 4).trans rfl, (blk_cell BK115.out 5).trans rfl, (blk_cell BK115.out 6).trans rfl, (blk_cell BK115.out 7).trans rfl, (blk_cell BK115.out 8).trans rfl, (blk_cell BK115.out 9).trans rfl⟩ (fun hHeld => ?_)
                     clear hK K
                     refine norm_ (a' := ?_) ?_ ?_
                     rotate_left
                     ·
                      show Act.put _ (some 17) _ = _
                      simp only [Act.put, List.setIfInBounds_toArray, List.set_cons_zero, List.set_cons_succ, i64_w, i32_w]
                      rfl
                     exact norm_ (by first | (simp only [putAll, Act.put, List.setIfInBounds_toArray, List.set_cons_zero, List.set_cons_succ]; done) | (simp only [putAll, Act.put, List.setIfInBounds_toArray, List.set_cons_zero, List.set_cons_succ]; rfl)) (hJ1 () _ ⟨hHeld, BK113.out, BK114.out, BK115.out, (by repeat (first | (with_reducible first | exact HB.out | apply below_alloc | apply pw_below_drewN | apply below_drew1 | refine below_set ?_ GE113.out | refine below_set ?_ GE114.out | refine below_set ?_ GE115.out) | exact HB.out))⟩)
                    ·
                     skip
                     refine box_step ?hg (N := 5) ?hd (cs := #[.int .i64 0, .int .i64 0, .int .i64 0, .int .i64 0, .int .i64 0, .int .i64 0, .int .i64 0, .int .i64 0, .int .i64 0, .int .i64 0]) (t := 26) ?hr ?_; (case hd => rfl); (case hg => rfl); (case hr => first | (go_simp; done) | (go_simp; rfl))
                     intro gb136 hg w48 hbox hb
                     have n0_ := blkB_ hb BK113
                     have n1_ := blkB_ hb BK114
                     have n2_ := blkB_ hb BK115
                     have n3_ := Aside0.mk (below_step (by repeat (first | (with_reducible first | exact HB.out | apply below_alloc | apply pw_below_drewN | apply below_drew1 | refine below_set ?_ GE113.out | refine below_set ?_ GE114.out | refine below_set ?_ GE115.out) | exact HB.out)) hb)
                     have n4_ := Aside0.mk (hbox)
                     have n5_ := Aside0.mk ((by rw [hg]; exact (below_size (by repeat (first | (with_reducible first | exact HB.out | apply below_alloc | apply pw_below_drewN | apply below_drew1 | refine below_set ?_ GE113.out | refine below_set ?_ GE114.out | refine below_set ?_ GE115.out) | exact HB.out))) : w.heap.size ≤ gb136))
                     have n6_ := Aside0.mk ((by rw [hg]; exact (below_size (by repeat (first | (with_reducible first | exact HB.out | apply below_alloc | apply pw_below_drewN | apply below_drew1 | refine below_set ?_ GE113.out | refine below_set ?_ GE114.out | refine below_set ?_ GE115.out) | exact HB.out))) : w.heap.size ≤ gb136))
                     have n7_ := neL_ hg BK113
                     have n8_ := neG_ hg BK113
                     have n9_ := neL_ hg BK114
                     have n10_ := neG_ hg BK114
                     have n11_ := neL_ hg BK115
                     have n12_ := neG_ hg BK115
                     clear BK113
                     clear BK114
                     clear BK115
                     clear HB
                     have BK113 := n0_
                     have BK114 := n1_
                     have BK115 := n2_
                     have HB := n3_
                     have BK136 := n4_
                     have GW136 := n5_
                     have GE136 := n6_
                     have NB113_136 := n7_
                     have NB136_113 := n8_
                     have NB114_136 := n9_
                     have NB136_114 := n10_
                     have NB115_136 := n11_
                     have NB136_115 := n12_
                     clear n0_ n1_ n2_ n3_ n4_ n5_ n6_ n7_ n8_ n9_ n10_ n11_ n12_
                     clear hb hbox hg
                     refine hK.out _ _ ⟨(blk_cell BK114.out 0).trans rfl, (blk_cell BK114.out 1).trans rfl, (blk_cell BK114.out 2).trans rfl, (blk_cell BK114.out 3).trans rfl, (blk_cell BK114.out 4).trans rfl, (blk_cell BK114.out 5).trans rfl, (blk_cell BK114.out 6).trans rfl, (blk_cell BK114.out 7).trans rfl, (blk_cell BK114.out 8).trans rfl, (blk_cell BK114.out 9).trans rfl, (blk_cell BK115.out 0).trans rfl, (blk_cell BK115.out 1).trans rfl, (blk_cell BK115.out 2).trans rfl, (blk_cell BK115.out 3).trans rfl, (blk_cell BK115.out 4).trans rfl, (blk_cell BK115.out 5).trans rfl, (blk_cell BK115.out 6).trans rfl, (blk_cell BK115.out 7).trans rfl, (blk_cell BK115.out 8).trans rfl, (blk_cell BK115.out 9).trans rfl⟩ (fun hHeld => ?_)
                     clear hK K
                     refine norm_ (a' := ?_) ?_ ?_
                     rotate_left
                     ·
                      show Act.put _ (some 5) _ = _
                      simp only [Act.put, List.setIfInBounds_toArray, List.set_cons_zero, List.set_cons_succ, i64_w, i32_w]
                      rfl
                     exact norm_ (by first | (simp only [putAll, Act.put, List.setIfInBounds_toArray, List.set_cons_zero, List.set_cons_succ]; done) | (simp only [putAll, Act.put, List.setIfInBounds_toArray, List.set_cons_zero, List.set_cons_succ]; rfl)) (hJ4 (gb136) _ ⟨hHeld, BK113.out, BK114.out, BK115.out, BK136.out, GW136.out, GE136.out, NB113_136.out, NB136_113.out, NB114_136.out, NB136_114.out, NB115_136.out, NB136_115.out, (by repeat (first | (with_reducible first | exact HB.out | apply below_alloc | apply pw_below_drewN | apply below_drew1 | refine below_set ?_ GE113.out | refine below_set ?_ GE114.out | refine below_set ?_ GE115.out | refine below_set ?_ GE136.out) | exact HB.out))⟩)
                    ·
                     skip
                     refine box_step ?hg (N := 6) ?hd (cs := #[.int .i64 0, .int .i64 0, .int .i64 0, .int .i64 0, .int .i64 0, .int .i64 0, .int .i64 0, .int .i64 0, .int .i64 0, .int .i64 0]) (t := 26) ?hr ?_; (case hd => rfl); (case hg => rfl); (case hr => first | (go_simp; done) | (go_simp; rfl))
                     intro gb137 hg w48 hbox hb
                     have n0_ := blkB_ hb BK113
                     have n1_ := blkB_ hb BK114
                     have n2_ := blkB_ hb BK115
                     have n3_ := Aside0.mk (below_step (by repeat (first | (with_reducible first | exact HB.out | apply below_alloc | apply pw_below_drewN | apply below_drew1 | refine below_set ?_ GE113.out | refine below_set ?_ GE114.out | refine below_set ?_ GE115.out) | exact HB.out)) hb)
                     have n4_ := Aside0.mk (hbox)
                     have n5_ := Aside0.mk ((by rw [hg]; exact (below_size (by repeat (first | (with_reducible first | exact HB.out | apply below_alloc | apply pw_below_drewN | apply below_drew1 | refine below_set ?_ GE113.out | refine below_set ?_ GE114.out | refine below_set ?_ GE115.out) | exact HB.out))) : w.heap.size ≤ gb137))
                     have n6_ := Aside0.mk ((by rw [hg]; exact (below_size (by repeat (first | (with_reducible first | exact HB.out | apply below_alloc | apply pw_below_drewN | apply below_drew1 | refine below_set ?_ GE113.out | refine below_set ?_ GE114.out | refine below_set ?_ GE115.out) | exact HB.out))) : w.heap.size ≤ gb137))
                     have n7_ := neL_ hg BK113
                     have n8_ := neG_ hg BK113
                     have n9_ := neL_ hg BK114
                     have n10_ := neG_ hg BK114
                     have n11_ := neL_ hg BK115
                     have n12_ := neG_ hg BK115
                     clear BK113
                     clear BK114
                     clear BK115
                     clear HB
                     have BK113 := n0_
                     have BK114 := n1_
                     have BK115 := n2_
                     have HB := n3_
                     have BK137 := n4_
                     have GW137 := n5_
                     have GE137 := n6_
                     have NB113_137 := n7_
                     have NB137_113 := n8_
                     have NB114_137 := n9_
                     have NB137_114 := n10_
                     have NB115_137 := n11_
                     have NB137_115 := n12_
                     clear n0_ n1_ n2_ n3_ n4_ n5_ n6_ n7_ n8_ n9_ n10_ n11_ n12_
                     clear hb hbox hg
                     refine hK.out _ _ ⟨(blk_cell BK114.out 0).trans rfl, (blk_cell BK114.out 1).trans rfl, (blk_cell BK114.out 2).trans rfl, (blk_cell BK114.out 3).trans rfl, (blk_cell BK114.out 4).trans rfl, (blk_cell BK114.out 5).trans rfl, (blk_cell BK114.out 6).trans rfl, (blk_cell BK114.out 7).trans rfl, (blk_cell BK114.out 8).trans rfl, (blk_cell BK114.out 9).trans rfl, (blk_cell BK115.out 0).trans rfl, (blk_cell BK115.out 1).trans rfl, (blk_cell BK115.out 2).trans rfl, (blk_cell BK115.out 3).trans rfl, (blk_cell BK115.out 4).trans rfl, (blk_cell BK115.out 5).trans rfl, (blk_cell BK115.out 6).trans rfl, (blk_cell BK115.out 7).trans rfl, (blk_cell BK115.out 8).trans rfl, (blk_cell BK115.out 9).trans rfl⟩ (fun hHeld => ?_)
                     clear hK K
                     refine norm_ (a' := ?_) ?_ ?_
                     rotate_left
                     ·
                      show Act.put _ (some 6) _ = _
                      simp only [Act.put, List.setIfInBounds_toArray, List.set_cons_zero, List.set_cons_succ, i64_w, i32_w]
                      rfl
                     exact norm_ (by first | (simp only [putAll, Act.put, List.setIfInBounds_toArray, List.set_cons_zero, List.set_cons_succ]; done) | (simp only [putAll, Act.put, List.setIfInBounds_toArray, List.set_cons_zero, List.set_cons_succ]; rfl)) (hJ5 (gb137) _ ⟨hHeld, BK113.out, BK114.out, BK115.out, BK137.out, GW137.out, GE137.out, NB113_137.out, NB137_113.out, NB114_137.out, NB137_114.out, NB115_137.out, NB137_115.out, (by repeat (first | (with_reducible first | exact HB.out | apply below_alloc | apply pw_below_drewN | apply below_drew1 | refine below_set ?_ GE113.out | refine below_set ?_ GE114.out | refine below_set ?_ GE115.out | refine below_set ?_ GE137.out) | exact HB.out))⟩)
                   ·
                    skip
                    rintro gb137 w49 ⟨hS_, h0_, h1_, h2_, h3_, h4_, h5_, h6_, h7_, h8_, h9_, h10_, h11_, h12_⟩
                    have n0_ : Aside0 (w49.heap[gb113]? = some (.cells #[.int .i64 a0_0, .int .i64 a0_1, .int .i64 a0_2, .int .i64 a0_3, .int .i64 a0_4, .int .i64 a0_5, .int .i64 a0_6, .int .i64 a0_7, .int .i64 a0_8, .int .i64 a0_9] 26 (0, 0))) := ⟨h0_⟩
                    have n1_ : Aside0 (w49.heap[gb114]? = some (.cells #[.int .i64 a0_0, .int .i64 1, .int .i64 a0_2, .int .i64 a0_3, .int .i64 a0_4, .int .i64 a0_5, .int .i64 a0_6, .int .i64 a0_7, .int .i64 a0_8, .int .i64 a0_9] 26 (0, 0))) := ⟨h1_⟩
                    have n2_ : Aside0 (w49.heap[gb115]? = some (.cells #[.int .i64 a0_0, .int .i64 1, .int .i64 a0_2, .int .i64 a0_3, .int .i64 a0_4, .int .i64 a0_5, .int .i64 a0_6, .int .i64 a0_7, .int .i64 a0_8, .int .i64 a0_9] 26 (0, 0))) := ⟨h2_⟩
                    have n3_ : Aside0 (w49.heap[gb137]? = some (.cells #[.int .i64 0, .int .i64 0, .int .i64 0, .int .i64 0, .int .i64 0, .int .i64 0, .int .i64 0, .int .i64 0, .int .i64 0, .int .i64 0] 26 (0, 0))) := ⟨h3_⟩
                    have n4_ : Aside0 (w.heap.size ≤ gb137) := ⟨h4_⟩
                    have n5_ : Aside0 (w.heap.size ≤ gb137) := ⟨h5_⟩
                    have n6_ : Aside0 (gb113 ≠ gb137) := ⟨h6_⟩
                    have n7_ : Aside0 (gb137 ≠ gb113) := ⟨h7_⟩
                    have n8_ : Aside0 (gb114 ≠ gb137) := ⟨h8_⟩
                    have n9_ : Aside0 (gb137 ≠ gb114) := ⟨h9_⟩
                    have n10_ : Aside0 (gb115 ≠ gb137) := ⟨h10_⟩
                    have n11_ : Aside0 (gb137 ≠ gb115) := ⟨h11_⟩
                    have n12_ : Aside0 (Below w.heap.size w w49) := ⟨h12_⟩
                    clear BK113
                    clear BK114
                    clear BK115
                    clear HB
                    clear h0_ h1_ h2_ h3_ h4_ h5_ h6_ h7_ h8_ h9_ h10_ h11_ h12_
                    have BK113 := n0_
                    have BK114 := n1_
                    have BK115 := n2_
                    have BK137 := n3_
                    have GW137 := n4_
                    have GE137 := n5_
                    have NB113_137 := n6_
                    have NB137_113 := n7_
                    have NB114_137 := n8_
                    have NB137_114 := n9_
                    have NB115_137 := n10_
                    have NB137_115 := n11_
                    have HB := n12_
                    clear n0_ n1_ n2_ n3_ n4_ n5_ n6_ n7_ n8_ n9_ n10_ n11_ n12_
                    have hHeld : w49.cell? ⟨gb114, 0, none⟩ = some (.int .i64 a0_0) ∧ w49.cell? ⟨gb114, 1, none⟩ = some (.int .i64 1) ∧ w49.cell? ⟨gb114, 2, none⟩ = some (.int .i64 a0_2) ∧ w49.cell? ⟨gb114, 3, none⟩ = some (.int .i64 a0_3) ∧ w49.cell? ⟨gb114, 4, none⟩ = some (.int .i64 a0_4) ∧ w49.cell? ⟨gb114, 5, none⟩ = some (.int .i64 a0_5) ∧ w49.cell? ⟨gb114, 6, none⟩ = some (.int .i64 a0_6) ∧ w49.cell? ⟨gb114, 7, none⟩ = some (.int .i64 a0_7) ∧ w49.cell? ⟨gb114, 8, none⟩ = some (.int .i64 a0_8) ∧ w49.cell? ⟨gb114, 9, none⟩ = some (.int .i64 a0_9) ∧ w49.cell? ⟨gb115, 0, none⟩ = some (.int .i64 a0_0) ∧ w49.cell? ⟨gb115, 1, none⟩ = some (.int .i64 1) ∧ w49.cell? ⟨gb115, 2, none⟩ = some (.int .i64 a0_2) ∧ w49.cell? ⟨gb115, 3, none⟩ = some (.int .i64 a0_3) ∧ w49.cell? ⟨gb115, 4, none⟩ = some (.int .i64 a0_4) ∧ w49.cell? ⟨gb115, 5, none⟩ = some (.int .i64 a0_5) ∧ w49.cell? ⟨gb115, 6, none⟩ = some (.int .i64 a0_6) ∧ w49.cell? ⟨gb115, 7, none⟩ = some (.int .i64 a0_7) ∧ w49.cell? ⟨gb115, 8, none⟩ = some (.int .i64 a0_8) ∧ w49.cell? ⟨gb115, 9, none⟩ = some (.int .i64 a0_9) := hS_
                    refine norm_ (a' := ?_) ?_ ?_
                    rotate_left
                    ·
                     simp only [putAll, Act.put, List.setIfInBounds_toArray, List.set_cons_zero, List.set_cons_succ]
                     rfl
                    refine two_ (i := 1) (j := 4) (Ni := some 17) (Nj := some 5) #[Tt,Tt,Tt,Ff,Ff,Tt,Ff,Ff] #[Tt,Ff,Tt,Ff,Tt,Tt,Ff,Ff] rfl rfl rfl rfl (two_of HT_.out (by kernel_rfl)) (by decide) (by decide) (fun K hK => ?_) (fun K hK => ?_)
                    ·
                     skip
                     refine goes_ Try.func10 (by kernel_rfl) rfl #[.int .i64 4, .agg #[.int .i64 a0_0, .int .i64 1, .int .i64 a0_2, .int .i64 a0_3, .int .i64 a0_4, .int .i64 a0_5, .int .i64 a0_6, .int .i64 a0_7, .int .i64 a0_8, .int .i64 a0_9]] (by rfl) rfl rfl (by (try simp only [List.map_toArray, List.map_cons, List.map_nil]); first | done | rfl | (simp only [List.length_drop, List.length_take]; rfl)) ?_
                     with_reducible refine (count_Step.calls 4 a0_0 1 a0_2 a0_3 a0_4 a0_5 a0_6 a0_7 a0_8 a0_9 t116 t117 t118 t119 t120 t121 t122 t123 t124 t125 _ A2.out).mono ?_
                     rintro e w50 ⟨rfl, hb⟩
                     refine ⟨_, rfl, ?_⟩
                     have n0_ := blkB_ hb BK113
                     have n1_ := blkB_ hb BK114
                     have n2_ := blkB_ hb BK115
                     have n3_ := blkB_ hb BK137
                     have n4_ := Aside0.mk (below_step (by repeat (first | (with_reducible first | exact HB.out | apply below_alloc | apply pw_below_drewN | apply below_drew1 | refine below_set ?_ GE113.out | refine below_set ?_ GE114.out | refine below_set ?_ GE115.out | refine below_set ?_ GE137.out) | exact HB.out)) hb)
                     clear BK113
                     clear BK114
                     clear BK115
                     clear BK137
                     clear HB
                     have BK113 := n0_
                     have BK114 := n1_
                     have BK115 := n2_
                     have BK137 := n3_
                     have HB := n4_
                     clear n0_ n1_ n2_ n3_ n4_
                     (try clear hb)
                     (try clear hb2)
                     (try clear hk)
                     (try clear hi)
                     refine hK.out _ _ ⟨(blk_cell BK114.out 0).trans rfl, (blk_cell BK114.out 1).trans rfl, (blk_cell BK114.out 2).trans rfl, (blk_cell BK114.out 3).trans rfl, (blk_cell BK114.out 4).trans rfl, (blk_cell BK114.out 5).trans rfl, (blk_cell BK114.out 6).trans rfl, (blk_cell BK114.out 7).trans rfl, (blk_cell BK114.out 8).trans rfl, (blk_cell BK114.out 9).trans rfl, (blk_cell BK115.out 0).trans rfl, (blk_cell BK115.out 1).trans rfl, (blk_cell BK115.out 2).trans rfl, (blk_cell BK115.out 3).trans rfl, (blk_cell BK115.out 4).trans rfl, (blk_cell BK115.out 5).trans rfl, (blk_cell BK115.out 6).trans rfl, (blk_cell BK115.out 7).trans rfl, (blk_cell BK115.out 8).trans rfl, (blk_cell BK115.out 9).trans rfl⟩ (fun hHeld => ?_)
                     clear hK K
                     refine norm_ (a' := ?_) ?_ ?_
                     rotate_left
                     ·
                      show Act.put _ (some 17) _ = _
                      simp only [Act.put, List.setIfInBounds_toArray, List.set_cons_zero, List.set_cons_succ, i64_w, i32_w]
                      rfl
                     exact norm_ (by first | (simp only [putAll, Act.put, List.setIfInBounds_toArray, List.set_cons_zero, List.set_cons_succ]; done) | (simp only [putAll, Act.put, List.setIfInBounds_toArray, List.set_cons_zero, List.set_cons_succ]; rfl)) (hJ1_5 (gb137) _ ⟨hHeld, BK113.out, BK114.out, BK115.out, BK137.out, GW137.out, GE137.out, NB113_137.out, NB137_113.out, NB114_137.out, NB137_114.out, NB115_137.out, NB137_115.out, (by repeat (first | (with_reducible first | exact HB.out | apply below_alloc | apply pw_below_drewN | apply below_drew1 | refine below_set ?_ GE113.out | refine below_set ?_ GE114.out | refine below_set ?_ GE115.out | refine below_set ?_ GE137.out) | exact HB.out))⟩)
                    ·
                     skip
                     refine box_step ?hg (N := 5) ?hd (cs := #[.int .i64 0, .int .i64 0, .int .i64 0, .int .i64 0, .int .i64 0, .int .i64 0, .int .i64 0, .int .i64 0, .int .i64 0, .int .i64 0]) (t := 26) ?hr ?_; (case hd => rfl); (case hg => rfl); (case hr => first | (go_simp; done) | (go_simp; rfl))
                     intro gb136 hg w50 hbox hb
                     have n0_ := blkB_ hb BK113
                     have n1_ := blkB_ hb BK114
                     have n2_ := blkB_ hb BK115
                     have n3_ := blkB_ hb BK137
                     have n4_ := Aside0.mk (below_step (by repeat (first | (with_reducible first | exact HB.out | apply below_alloc | apply pw_below_drewN | apply below_drew1 | refine below_set ?_ GE113.out | refine below_set ?_ GE114.out | refine below_set ?_ GE115.out | refine below_set ?_ GE137.out) | exact HB.out)) hb)
                     have n5_ := Aside0.mk (hbox)
                     have n6_ := Aside0.mk ((by rw [hg]; exact (below_size (by repeat (first | (with_reducible first | exact HB.out | apply below_alloc | apply pw_below_drewN | apply below_drew1 | refine below_set ?_ GE113.out | refine below_set ?_ GE114.out | refine below_set ?_ GE115.out | refine below_set ?_ GE137.out) | exact HB.out))) : w.heap.size ≤ gb136))
                     have n7_ := Aside0.mk ((by rw [hg]; exact (below_size (by repeat (first | (with_reducible first | exact HB.out | apply below_alloc | apply pw_below_drewN | apply below_drew1 | refine below_set ?_ GE113.out | refine below_set ?_ GE114.out | refine below_set ?_ GE115.out | refine below_set ?_ GE137.out) | exact HB.out))) : w.heap.size ≤ gb136))
                     have n8_ := neL_ hg BK113
                     have n9_ := neG_ hg BK113
                     have n10_ := neL_ hg BK114
                     have n11_ := neG_ hg BK114
                     have n12_ := neL_ hg BK115
                     have n13_ := neG_ hg BK115
                     have n14_ := neL_ hg BK137
                     have n15_ := neG_ hg BK137
                     clear BK113
                     clear BK114
                     clear BK115
                     clear BK137
                     clear HB
                     have BK113 := n0_
                     have BK114 := n1_
                     have BK115 := n2_
                     have BK137 := n3_
                     have HB := n4_
                     have BK136 := n5_
                     have GW136 := n6_
                     have GE136 := n7_
                     have NB113_136 := n8_
                     have NB136_113 := n9_
                     have NB114_136 := n10_
                     have NB136_114 := n11_
                     have NB115_136 := n12_
                     have NB136_115 := n13_
                     have NB137_136 := n14_
                     have NB136_137 := n15_
                     clear n0_ n1_ n2_ n3_ n4_ n5_ n6_ n7_ n8_ n9_ n10_ n11_ n12_ n13_ n14_ n15_
                     clear hb hbox hg
                     refine hK.out _ _ ⟨(blk_cell BK114.out 0).trans rfl, (blk_cell BK114.out 1).trans rfl, (blk_cell BK114.out 2).trans rfl, (blk_cell BK114.out 3).trans rfl, (blk_cell BK114.out 4).trans rfl, (blk_cell BK114.out 5).trans rfl, (blk_cell BK114.out 6).trans rfl, (blk_cell BK114.out 7).trans rfl, (blk_cell BK114.out 8).trans rfl, (blk_cell BK114.out 9).trans rfl, (blk_cell BK115.out 0).trans rfl, (blk_cell BK115.out 1).trans rfl, (blk_cell BK115.out 2).trans rfl, (blk_cell BK115.out 3).trans rfl, (blk_cell BK115.out 4).trans rfl, (blk_cell BK115.out 5).trans rfl, (blk_cell BK115.out 6).trans rfl, (blk_cell BK115.out 7).trans rfl, (blk_cell BK115.out 8).trans rfl, (blk_cell BK115.out 9).trans rfl⟩ (fun hHeld => ?_)
                     clear hK K
                     refine norm_ (a' := ?_) ?_ ?_
                     rotate_left
                     ·
                      show Act.put _ (some 5) _ = _
                      simp only [Act.put, List.setIfInBounds_toArray, List.set_cons_zero, List.set_cons_succ, i64_w, i32_w]
                      rfl
                     exact norm_ (by first | (simp only [putAll, Act.put, List.setIfInBounds_toArray, List.set_cons_zero, List.set_cons_succ]; done) | (simp only [putAll, Act.put, List.setIfInBounds_toArray, List.set_cons_zero, List.set_cons_succ]; rfl)) (hJ4_5 (gb136, gb137) _ ⟨hHeld, BK113.out, BK114.out, BK115.out, BK136.out, BK137.out, GW136.out, GE136.out, NB113_136.out, NB136_113.out, NB114_136.out, NB136_114.out, NB115_136.out, NB136_115.out, NB137_136.out, NB136_137.out, GW137.out, GE137.out, NB113_137.out, NB137_113.out, NB114_137.out, NB137_114.out, NB115_137.out, NB137_115.out, (by repeat (first | (with_reducible first | exact HB.out | apply below_alloc | apply pw_below_drewN | apply below_drew1 | refine below_set ?_ GE113.out | refine below_set ?_ GE114.out | refine below_set ?_ GE115.out | refine below_set ?_ GE137.out | refine below_set ?_ GE136.out) | exact HB.out))⟩)
                  ·
                   skip
                   rintro gb136 w49 ⟨hS_, h0_, h1_, h2_, h3_, h4_, h5_, h6_, h7_, h8_, h9_, h10_, h11_, h12_⟩
                   have n0_ : Aside0 (w49.heap[gb113]? = some (.cells #[.int .i64 a0_0, .int .i64 a0_1, .int .i64 a0_2, .int .i64 a0_3, .int .i64 a0_4, .int .i64 a0_5, .int .i64 a0_6, .int .i64 a0_7, .int .i64 a0_8, .int .i64 a0_9] 26 (0, 0))) := ⟨h0_⟩
                   have n1_ : Aside0 (w49.heap[gb114]? = some (.cells #[.int .i64 a0_0, .int .i64 1, .int .i64 a0_2, .int .i64 a0_3, .int .i64 a0_4, .int .i64 a0_5, .int .i64 a0_6, .int .i64 a0_7, .int .i64 a0_8, .int .i64 a0_9] 26 (0, 0))) := ⟨h1_⟩
                   have n2_ : Aside0 (w49.heap[gb115]? = some (.cells #[.int .i64 a0_0, .int .i64 1, .int .i64 a0_2, .int .i64 a0_3, .int .i64 a0_4, .int .i64 a0_5, .int .i64 a0_6, .int .i64 a0_7, .int .i64 a0_8, .int .i64 a0_9] 26 (0, 0))) := ⟨h2_⟩
                   have n3_ : Aside0 (w49.heap[gb136]? = some (.cells #[.int .i64 0, .int .i64 0, .int .i64 0, .int .i64 0, .int .i64 0, .int .i64 0, .int .i64 0, .int .i64 0, .int .i64 0, .int .i64 0] 26 (0, 0))) := ⟨h3_⟩
                   have n4_ : Aside0 (w.heap.size ≤ gb136) := ⟨h4_⟩
                   have n5_ : Aside0 (w.heap.size ≤ gb136) := ⟨h5_⟩
                   have n6_ : Aside0 (gb113 ≠ gb136) := ⟨h6_⟩
                   have n7_ : Aside0 (gb136 ≠ gb113) := ⟨h7_⟩
                   have n8_ : Aside0 (gb114 ≠ gb136) := ⟨h8_⟩
                   have n9_ : Aside0 (gb136 ≠ gb114) := ⟨h9_⟩
                   have n10_ : Aside0 (gb115 ≠ gb136) := ⟨h10_⟩
                   have n11_ : Aside0 (gb136 ≠ gb115) := ⟨h11_⟩
                   have n12_ : Aside0 (Below w.heap.size w w49) := ⟨h12_⟩
                   clear BK113
                   clear BK114
                   clear BK115
                   clear HB
                   clear h0_ h1_ h2_ h3_ h4_ h5_ h6_ h7_ h8_ h9_ h10_ h11_ h12_
                   have BK113 := n0_
                   have BK114 := n1_
                   have BK115 := n2_
                   have BK136 := n3_
                   have GW136 := n4_
                   have GE136 := n5_
                   have NB113_136 := n6_
                   have NB136_113 := n7_
                   have NB114_136 := n8_
                   have NB136_114 := n9_
                   have NB115_136 := n10_
                   have NB136_115 := n11_
                   have HB := n12_
                   clear n0_ n1_ n2_ n3_ n4_ n5_ n6_ n7_ n8_ n9_ n10_ n11_ n12_
                   have hHeld : w49.cell? ⟨gb114, 0, none⟩ = some (.int .i64 a0_0) ∧ w49.cell? ⟨gb114, 1, none⟩ = some (.int .i64 1) ∧ w49.cell? ⟨gb114, 2, none⟩ = some (.int .i64 a0_2) ∧ w49.cell? ⟨gb114, 3, none⟩ = some (.int .i64 a0_3) ∧ w49.cell? ⟨gb114, 4, none⟩ = some (.int .i64 a0_4) ∧ w49.cell? ⟨gb114, 5, none⟩ = some (.int .i64 a0_5) ∧ w49.cell? ⟨gb114, 6, none⟩ = some (.int .i64 a0_6) ∧ w49.cell? ⟨gb114, 7, none⟩ = some (.int .i64 a0_7) ∧ w49.cell? ⟨gb114, 8, none⟩ = some (.int .i64 a0_8) ∧ w49.cell? ⟨gb114, 9, none⟩ = some (.int .i64 a0_9) ∧ w49.cell? ⟨gb115, 0, none⟩ = some (.int .i64 a0_0) ∧ w49.cell? ⟨gb115, 1, none⟩ = some (.int .i64 1) ∧ w49.cell? ⟨gb115, 2, none⟩ = some (.int .i64 a0_2) ∧ w49.cell? ⟨gb115, 3, none⟩ = some (.int .i64 a0_3) ∧ w49.cell? ⟨gb115, 4, none⟩ = some (.int .i64 a0_4) ∧ w49.cell? ⟨gb115, 5, none⟩ = some (.int .i64 a0_5) ∧ w49.cell? ⟨gb115, 6, none⟩ = some (.int .i64 a0_6) ∧ w49.cell? ⟨gb115, 7, none⟩ = some (.int .i64 a0_7) ∧ w49.cell? ⟨gb115, 8, none⟩ = some (.int .i64 a0_8) ∧ w49.cell? ⟨gb115, 9, none⟩ = some (.int .i64 a0_9) := hS_
                   refine norm_ (a' := ?_) ?_ ?_
                   rotate_left
                   ·
                    simp only [putAll, Act.put, List.setIfInBounds_toArray, List.set_cons_zero, List.set_cons_succ]
                    rfl
                   refine two_ (i := 1) (j := 5) (Ni := some 17) (Nj := some 6) #[Tt,Tt,Tt,Ff,Tt,Ff,Ff,Ff] #[Tt,Ff,Tt,Ff,Tt,Tt,Ff,Ff] rfl rfl rfl rfl (two_of HT_.out (by kernel_rfl)) (by decide) (by decide) (fun K hK => ?_) (fun K hK => ?_)
                   ·
                    skip
                    refine goes_ Try.func10 (by kernel_rfl) rfl #[.int .i64 4, .agg #[.int .i64 a0_0, .int .i64 1, .int .i64 a0_2, .int .i64 a0_3, .int .i64 a0_4, .int .i64 a0_5, .int .i64 a0_6, .int .i64 a0_7, .int .i64 a0_8, .int .i64 a0_9]] (by rfl) rfl rfl (by (try simp only [List.map_toArray, List.map_cons, List.map_nil]); first | done | rfl | (simp only [List.length_drop, List.length_take]; rfl)) ?_
                    with_reducible refine (count_Step.calls 4 a0_0 1 a0_2 a0_3 a0_4 a0_5 a0_6 a0_7 a0_8 a0_9 t116 t117 t118 t119 t120 t121 t122 t123 t124 t125 _ A2.out).mono ?_
                    rintro e w50 ⟨rfl, hb⟩
                    refine ⟨_, rfl, ?_⟩
                    have n0_ := blkB_ hb BK113
                    have n1_ := blkB_ hb BK114
                    have n2_ := blkB_ hb BK115
                    have n3_ := blkB_ hb BK136
                    have n4_ := Aside0.mk (below_step (by repeat (first | (with_reducible first | exact HB.out | apply below_alloc | apply pw_below_drewN | apply below_drew1 | refine below_set ?_ GE113.out | refine below_set ?_ GE114.out | refine below_set ?_ GE115.out | refine below_set ?_ GE136.out) | exact HB.out)) hb)
                    clear BK113
                    clear BK114
                    clear BK115
                    clear BK136
                    clear HB
                    have BK113 := n0_
                    have BK114 := n1_
                    have BK115 := n2_
                    have BK136 := n3_
                    have HB := n4_
                    clear n0_ n1_ n2_ n3_ n4_
                    (try clear hb)
                    (try clear hb2)
                    (try clear hk)
                    (try clear hi)
                    refine hK.out _ _ ⟨(blk_cell BK114.out 0).trans rfl, (blk_cell BK114.out 1).trans rfl, (blk_cell BK114.out 2).trans rfl, (blk_cell BK114.out 3).trans rfl, (blk_cell BK114.out 4).trans rfl, (blk_cell BK114.out 5).trans rfl, (blk_cell BK114.out 6).trans rfl, (blk_cell BK114.out 7).trans rfl, (blk_cell BK114.out 8).trans rfl, (blk_cell BK114.out 9).trans rfl, (blk_cell BK115.out 0).trans rfl, (blk_cell BK115.out 1).trans rfl, (blk_cell BK115.out 2).trans rfl, (blk_cell BK115.out 3).trans rfl, (blk_cell BK115.out 4).trans rfl, (blk_cell BK115.out 5).trans rfl, (blk_cell BK115.out 6).trans rfl, (blk_cell BK115.out 7).trans rfl, (blk_cell BK115.out 8).trans rfl, (blk_cell BK115.out 9).trans rfl⟩ (fun hHeld => ?_)
                    clear hK K
                    refine norm_ (a' := ?_) ?_ ?_
                    rotate_left
                    ·
                     show Act.put _ (some 17) _ = _
                     simp only [Act.put, List.setIfInBounds_toArray, List.set_cons_zero, List.set_cons_succ, i64_w, i32_w]
                     rfl
                    exact norm_ (by first | (simp only [putAll, Act.put, List.setIfInBounds_toArray, List.set_cons_zero, List.set_cons_succ]; done) | (simp only [putAll, Act.put, List.setIfInBounds_toArray, List.set_cons_zero, List.set_cons_succ]; rfl)) (hJ1_4 (gb136) _ ⟨hHeld, BK113.out, BK114.out, BK115.out, BK136.out, GW136.out, GE136.out, NB113_136.out, NB136_113.out, NB114_136.out, NB136_114.out, NB115_136.out, NB136_115.out, (by repeat (first | (with_reducible first | exact HB.out | apply below_alloc | apply pw_below_drewN | apply below_drew1 | refine below_set ?_ GE113.out | refine below_set ?_ GE114.out | refine below_set ?_ GE115.out | refine below_set ?_ GE136.out) | exact HB.out))⟩)
                   ·
                    skip
                    refine box_step ?hg (N := 6) ?hd (cs := #[.int .i64 0, .int .i64 0, .int .i64 0, .int .i64 0, .int .i64 0, .int .i64 0, .int .i64 0, .int .i64 0, .int .i64 0, .int .i64 0]) (t := 26) ?hr ?_; (case hd => rfl); (case hg => rfl); (case hr => first | (go_simp; done) | (go_simp; rfl))
                    intro gb137 hg w50 hbox hb
                    have n0_ := blkB_ hb BK113
                    have n1_ := blkB_ hb BK114
                    have n2_ := blkB_ hb BK115
                    have n3_ := blkB_ hb BK136
                    have n4_ := Aside0.mk (below_step (by repeat (first | (with_reducible first | exact HB.out | apply below_alloc | apply pw_below_drewN | apply below_drew1 | refine below_set ?_ GE113.out | refine below_set ?_ GE114.out | refine below_set ?_ GE115.out | refine below_set ?_ GE136.out) | exact HB.out)) hb)
                    have n5_ := Aside0.mk (hbox)
                    have n6_ := Aside0.mk ((by rw [hg]; exact (below_size (by repeat (first | (with_reducible first | exact HB.out | apply below_alloc | apply pw_below_drewN | apply below_drew1 | refine below_set ?_ GE113.out | refine below_set ?_ GE114.out | refine below_set ?_ GE115.out | refine below_set ?_ GE136.out) | exact HB.out))) : w.heap.size ≤ gb137))
                    have n7_ := Aside0.mk ((by rw [hg]; exact (below_size (by repeat (first | (with_reducible first | exact HB.out | apply below_alloc | apply pw_below_drewN | apply below_drew1 | refine below_set ?_ GE113.out | refine below_set ?_ GE114.out | refine below_set ?_ GE115.out | refine below_set ?_ GE136.out) | exact HB.out))) : w.heap.size ≤ gb137))
                    have n8_ := neL_ hg BK113
                    have n9_ := neG_ hg BK113
                    have n10_ := neL_ hg BK114
                    have n11_ := neG_ hg BK114
                    have n12_ := neL_ hg BK115
                    have n13_ := neG_ hg BK115
                    have n14_ := neL_ hg BK136
                    have n15_ := neG_ hg BK136
                    clear BK113
                    clear BK114
                    clear BK115
                    clear BK136
                    clear HB
                    have BK113 := n0_
                    have BK114 := n1_
                    have BK115 := n2_
                    have BK136 := n3_
                    have HB := n4_
                    have BK137 := n5_
                    have GW137 := n6_
                    have GE137 := n7_
                    have NB113_137 := n8_
                    have NB137_113 := n9_
                    have NB114_137 := n10_
                    have NB137_114 := n11_
                    have NB115_137 := n12_
                    have NB137_115 := n13_
                    have NB136_137 := n14_
                    have NB137_136 := n15_
                    clear n0_ n1_ n2_ n3_ n4_ n5_ n6_ n7_ n8_ n9_ n10_ n11_ n12_ n13_ n14_ n15_
                    clear hb hbox hg
                    refine hK.out _ _ ⟨(blk_cell BK114.out 0).trans rfl, (blk_cell BK114.out 1).trans rfl, (blk_cell BK114.out 2).trans rfl, (blk_cell BK114.out 3).trans rfl, (blk_cell BK114.out 4).trans rfl, (blk_cell BK114.out 5).trans rfl, (blk_cell BK114.out 6).trans rfl, (blk_cell BK114.out 7).trans rfl, (blk_cell BK114.out 8).trans rfl, (blk_cell BK114.out 9).trans rfl, (blk_cell BK115.out 0).trans rfl, (blk_cell BK115.out 1).trans rfl, (blk_cell BK115.out 2).trans rfl, (blk_cell BK115.out 3).trans rfl, (blk_cell BK115.out 4).trans rfl, (blk_cell BK115.out 5).trans rfl, (blk_cell BK115.out 6).trans rfl, (blk_cell BK115.out 7).trans rfl, (blk_cell BK115.out 8).trans rfl, (blk_cell BK115.out 9).trans rfl⟩ (fun hHeld => ?_)
                    clear hK K
                    refine norm_ (a' := ?_) ?_ ?_
                    rotate_left
                    ·
                     show Act.put _ (some 6) _ = _
                     simp only [Act.put, List.setIfInBounds_toArray, List.set_cons_zero, List.set_cons_succ, i64_w, i32_w]
                     rfl
                    exact norm_ (by first | (simp only [putAll, Act.put, List.setIfInBounds_toArray, List.set_cons_zero, List.set_cons_succ]; done) | (simp only [putAll, Act.put, List.setIfInBounds_toArray, List.set_cons_zero, List.set_cons_succ]; rfl)) (hJ4_5 (gb136, gb137) _ ⟨hHeld, BK113.out, BK114.out, BK115.out, BK136.out, BK137.out, GW136.out, GE136.out, NB113_136.out, NB136_113.out, NB114_136.out, NB136_114.out, NB115_136.out, NB136_115.out, NB137_136.out, NB136_137.out, GW137.out, GE137.out, NB113_137.out, NB137_113.out, NB114_137.out, NB137_114.out, NB115_137.out, NB137_115.out, (by repeat (first | (with_reducible first | exact HB.out | apply below_alloc | apply pw_below_drewN | apply below_drew1 | refine below_set ?_ GE113.out | refine below_set ?_ GE114.out | refine below_set ?_ GE115.out | refine below_set ?_ GE136.out | refine below_set ?_ GE137.out) | exact HB.out))⟩)
                 ·
                  skip
                  rintro _ w49 ⟨hS_, h0_, h1_, h2_, h3_⟩
                  have n0_ : Aside0 (w49.heap[gb113]? = some (.cells #[.int .i64 a0_0, .int .i64 a0_1, .int .i64 a0_2, .int .i64 a0_3, .int .i64 a0_4, .int .i64 a0_5, .int .i64 a0_6, .int .i64 a0_7, .int .i64 a0_8, .int .i64 a0_9] 26 (0, 0))) := ⟨h0_⟩
                  have n1_ : Aside0 (w49.heap[gb114]? = some (.cells #[.int .i64 a0_0, .int .i64 1, .int .i64 a0_2, .int .i64 a0_3, .int .i64 a0_4, .int .i64 a0_5, .int .i64 a0_6, .int .i64 a0_7, .int .i64 a0_8, .int .i64 a0_9] 26 (0, 0))) := ⟨h1_⟩
                  have n2_ : Aside0 (w49.heap[gb115]? = some (.cells #[.int .i64 a0_0, .int .i64 1, .int .i64 a0_2, .int .i64 a0_3, .int .i64 a0_4, .int .i64 a0_5, .int .i64 a0_6, .int .i64 a0_7, .int .i64 a0_8, .int .i64 a0_9] 26 (0, 0))) := ⟨h2_⟩
                  have n3_ : Aside0 (Below w.heap.size w w49) := ⟨h3_⟩
                  clear BK113
                  clear BK114
                  clear BK115
                  clear HB
                  clear h0_ h1_ h2_ h3_
                  have BK113 := n0_
                  have BK114 := n1_
                  have BK115 := n2_
                  have HB := n3_
                  clear n0_ n1_ n2_ n3_
                  have hHeld : w49.cell? ⟨gb114, 0, none⟩ = some (.int .i64 a0_0) ∧ w49.cell? ⟨gb114, 1, none⟩ = some (.int .i64 1) ∧ w49.cell? ⟨gb114, 2, none⟩ = some (.int .i64 a0_2) ∧ w49.cell? ⟨gb114, 3, none⟩ = some (.int .i64 a0_3) ∧ w49.cell? ⟨gb114, 4, none⟩ = some (.int .i64 a0_4) ∧ w49.cell? ⟨gb114, 5, none⟩ = some (.int .i64 a0_5) ∧ w49.cell? ⟨gb114, 6, none⟩ = some (.int .i64 a0_6) ∧ w49.cell? ⟨gb114, 7, none⟩ = some (.int .i64 a0_7) ∧ w49.cell? ⟨gb114, 8, none⟩ = some (.int .i64 a0_8) ∧ w49.cell? ⟨gb114, 9, none⟩ = some (.int .i64 a0_9) ∧ w49.cell? ⟨gb115, 0, none⟩ = some (.int .i64 a0_0) ∧ w49.cell? ⟨gb115, 1, none⟩ = some (.int .i64 1) ∧ w49.cell? ⟨gb115, 2, none⟩ = some (.int .i64 a0_2) ∧ w49.cell? ⟨gb115, 3, none⟩ = some (.int .i64 a0_3) ∧ w49.cell? ⟨gb115, 4, none⟩ = some (.int .i64 a0_4) ∧ w49.cell? ⟨gb115, 5, none⟩ = some (.int .i64 a0_5) ∧ w49.cell? ⟨gb115, 6, none⟩ = some (.int .i64 a0_6) ∧ w49.cell? ⟨gb115, 7, none⟩ = some (.int .i64 a0_7) ∧ w49.cell? ⟨gb115, 8, none⟩ = some (.int .i64 a0_8) ∧ w49.cell? ⟨gb115, 9, none⟩ = some (.int .i64 a0_9) := hS_
                  refine norm_ (a' := ?_) ?_ ?_
                  rotate_left
                  ·
                   simp only [putAll, Act.put, List.setIfInBounds_toArray, List.set_cons_zero, List.set_cons_succ]
                   rfl
                  refine three_ (i := 3) (j := 4) (k := 5) (Ni := some 19) (Nj := some 5) (Nk := some 6) #[Tt,Tt,Tt,Tt,Ff,Ff,Ff,Ff] #[Tt,Tt,Tt,Ff,Tt,Ff,Ff,Ff] #[Tt,Tt,Tt,Ff,Ff,Tt,Ff,Ff] rfl rfl rfl rfl rfl rfl (three_of HT_.out (by kernel_rfl)) (by decide) (by decide) (by decide) (fun K hK => ?_) (fun K hK => ?_) (fun K hK => ?_)
                  ·
                   skip
                   refine goes_ Try.func10 (by kernel_rfl) rfl #[.int .i64 5, .agg #[.int .i64 a0_0, .int .i64 1, .int .i64 a0_2, .int .i64 a0_3, .int .i64 a0_4, .int .i64 a0_5, .int .i64 a0_6, .int .i64 a0_7, .int .i64 a0_8, .int .i64 a0_9]] (by rfl) rfl rfl (by (try simp only [List.map_toArray, List.map_cons, List.map_nil]); first | done | rfl | (simp only [List.length_drop, List.length_take]; rfl)) ?_
                   with_reducible refine (count_Step.calls 5 a0_0 1 a0_2 a0_3 a0_4 a0_5 a0_6 a0_7 a0_8 a0_9 t126 t127 t128 t129 t130 t131 t132 t133 t134 t135 _ A3.out).mono ?_
                   rintro e w50 ⟨rfl, hb⟩
                   refine ⟨_, rfl, ?_⟩
                   have n0_ := blkB_ hb BK113
                   have n1_ := blkB_ hb BK114
                   have n2_ := blkB_ hb BK115
                   have n3_ := Aside0.mk (below_step (by repeat (first | (with_reducible first | exact HB.out | apply below_alloc | apply pw_below_drewN | apply below_drew1 | refine below_set ?_ GE113.out | refine below_set ?_ GE114.out | refine below_set ?_ GE115.out) | exact HB.out)) hb)
                   clear BK113
                   clear BK114
                   clear BK115
                   clear HB
                   have BK113 := n0_
                   have BK114 := n1_
                   have BK115 := n2_
                   have HB := n3_
                   clear n0_ n1_ n2_ n3_
                   (try clear hb)
                   (try clear hb2)
                   (try clear hk)
                   (try clear hi)
                   refine hK.out _ _ ⟨(blk_cell BK114.out 0).trans rfl, (blk_cell BK114.out 1).trans rfl, (blk_cell BK114.out 2).trans rfl, (blk_cell BK114.out 3).trans rfl, (blk_cell BK114.out 4).trans rfl, (blk_cell BK114.out 5).trans rfl, (blk_cell BK114.out 6).trans rfl, (blk_cell BK114.out 7).trans rfl, (blk_cell BK114.out 8).trans rfl, (blk_cell BK114.out 9).trans rfl, (blk_cell BK115.out 0).trans rfl, (blk_cell BK115.out 1).trans rfl, (blk_cell BK115.out 2).trans rfl, (blk_cell BK115.out 3).trans rfl, (blk_cell BK115.out 4).trans rfl, (blk_cell BK115.out 5).trans rfl, (blk_cell BK115.out 6).trans rfl, (blk_cell BK115.out 7).trans rfl, (blk_cell BK115.out 8).trans rfl, (blk_cell BK115.out 9).trans rfl⟩ (fun hHeld => ?_)
                   clear hK K
                   refine norm_ (a' := ?_) ?_ ?_
                   rotate_left
                   ·
                    show Act.put _ (some 19) _ = _
                    simp only [Act.put, List.setIfInBounds_toArray, List.set_cons_zero, List.set_cons_succ, i64_w, i32_w]
                    rfl
                   exact norm_ (by first | (simp only [putAll, Act.put, List.setIfInBounds_toArray, List.set_cons_zero, List.set_cons_succ]; done) | (simp only [putAll, Act.put, List.setIfInBounds_toArray, List.set_cons_zero, List.set_cons_succ]; rfl)) (hJ1_3 () _ ⟨hHeld, BK113.out, BK114.out, BK115.out, (by repeat (first | (with_reducible first | exact HB.out | apply below_alloc | apply pw_below_drewN | apply below_drew1 | refine below_set ?_ GE113.out | refine below_set ?_ GE114.out | refine below_set ?_ GE115.out) | exact HB.out))⟩)
                  ·
                   skip
                   refine box_step ?hg (N := 5) ?hd (cs := #[.int .i64 0, .int .i64 0, .int .i64 0, .int .i64 0, .int .i64 0, .int .i64 0, .int .i64 0, .int .i64 0, .int .i64 0, .int .i64 0]) (t := 26) ?hr ?_; (case hd => rfl); (case hg => rfl); (case hr => first | (go_simp; done) | (go_simp; rfl))
                   intro gb136 hg w50 hbox hb
                   have n0_ := blkB_ hb BK113
                   have n1_ := blkB_ hb BK114
                   have n2_ := blkB_ hb BK115
                   have n3_ := Aside0.mk (below_step (by repeat (first | (with_reducible first | exact HB.out | apply below_alloc | apply pw_below_drewN | apply below_drew1 | refine below_set ?_ GE113.out | refine below_set ?_ GE114.out | refine below_set ?_ GE115.out) | exact HB.out)) hb)
                   have n4_ := Aside0.mk (hbox)
                   have n5_ := Aside0.mk ((by rw [hg]; exact (below_size (by repeat (first | (with_reducible first | exact HB.out | apply below_alloc | apply pw_below_drewN | apply below_drew1 | refine below_set ?_ GE113.out | refine below_set ?_ GE114.out | refine below_set ?_ GE115.out) | exact HB.out))) : w.heap.size ≤ gb136))
                   have n6_ := Aside0.mk ((by rw [hg]; exact (below_size (by repeat (first | (with_reducible first | exact HB.out | apply below_alloc | apply pw_below_drewN | apply below_drew1 | refine below_set ?_ GE113.out | refine below_set ?_ GE114.out | refine below_set ?_ GE115.out) | exact HB.out))) : w.heap.size ≤ gb136))
                   have n7_ := neL_ hg BK113
                   have n8_ := neG_ hg BK113
                   have n9_ := neL_ hg BK114
                   have n10_ := neG_ hg BK114
                   have n11_ := neL_ hg BK115
                   have n12_ := neG_ hg BK115
                   clear BK113
                   clear BK114
                   clear BK115
                   clear HB
                   have BK113 := n0_
                   have BK114 := n1_
                   have BK115 := n2_
                   have HB := n3_
                   have BK136 := n4_
                   have GW136 := n5_
                   have GE136 := n6_
                   have NB113_136 := n7_
                   have NB136_113 := n8_
                   have NB114_136 := n9_
                   have NB136_114 := n10_
                   have NB115_136 := n11_
                   have NB136_115 := n12_
                   clear n0_ n1_ n2_ n3_ n4_ n5_ n6_ n7_ n8_ n9_ n10_ n11_ n12_
                   clear hb hbox hg
                   refine hK.out _ _ ⟨(blk_cell BK114.out 0).trans rfl, (blk_cell BK114.out 1).trans rfl, (blk_cell BK114.out 2).trans rfl, (blk_cell BK114.out 3).trans rfl, (blk_cell BK114.out 4).trans rfl, (blk_cell BK114.out 5).trans rfl, (blk_cell BK114.out 6).trans rfl, (blk_cell BK114.out 7).trans rfl, (blk_cell BK114.out 8).trans rfl, (blk_cell BK114.out 9).trans rfl, (blk_cell BK115.out 0).trans rfl, (blk_cell BK115.out 1).trans rfl, (blk_cell BK115.out 2).trans rfl, (blk_cell BK115.out 3).trans rfl, (blk_cell BK115.out 4).trans rfl, (blk_cell BK115.out 5).trans rfl, (blk_cell BK115.out 6).trans rfl, (blk_cell BK115.out 7).trans rfl, (blk_cell BK115.out 8).trans rfl, (blk_cell BK115.out 9).trans rfl⟩ (fun hHeld => ?_)
                   clear hK K
                   refine norm_ (a' := ?_) ?_ ?_
                   rotate_left
                   ·
                    show Act.put _ (some 5) _ = _
                    simp only [Act.put, List.setIfInBounds_toArray, List.set_cons_zero, List.set_cons_succ, i64_w, i32_w]
                    rfl
                   exact norm_ (by first | (simp only [putAll, Act.put, List.setIfInBounds_toArray, List.set_cons_zero, List.set_cons_succ]; done) | (simp only [putAll, Act.put, List.setIfInBounds_toArray, List.set_cons_zero, List.set_cons_succ]; rfl)) (hJ1_4 (gb136) _ ⟨hHeld, BK113.out, BK114.out, BK115.out, BK136.out, GW136.out, GE136.out, NB113_136.out, NB136_113.out, NB114_136.out, NB136_114.out, NB115_136.out, NB136_115.out, (by repeat (first | (with_reducible first | exact HB.out | apply below_alloc | apply pw_below_drewN | apply below_drew1 | refine below_set ?_ GE113.out | refine below_set ?_ GE114.out | refine below_set ?_ GE115.out | refine below_set ?_ GE136.out) | exact HB.out))⟩)
                  ·
                   skip
                   refine box_step ?hg (N := 6) ?hd (cs := #[.int .i64 0, .int .i64 0, .int .i64 0, .int .i64 0, .int .i64 0, .int .i64 0, .int .i64 0, .int .i64 0, .int .i64 0, .int .i64 0]) (t := 26) ?hr ?_; (case hd => rfl); (case hg => rfl); (case hr => first | (go_simp; done) | (go_simp; rfl))
                   intro gb137 hg w50 hbox hb
                   have n0_ := blkB_ hb BK113
                   have n1_ := blkB_ hb BK114
                   have n2_ := blkB_ hb BK115
                   have n3_ := Aside0.mk (below_step (by repeat (first | (with_reducible first | exact HB.out | apply below_alloc | apply pw_below_drewN | apply below_drew1 | refine below_set ?_ GE113.out | refine below_set ?_ GE114.out | refine below_set ?_ GE115.out) | exact HB.out)) hb)
                   have n4_ := Aside0.mk (hbox)
                   have n5_ := Aside0.mk ((by rw [hg]; exact (below_size (by repeat (first | (with_reducible first | exact HB.out | apply below_alloc | apply pw_below_drewN | apply below_drew1 | refine below_set ?_ GE113.out | refine below_set ?_ GE114.out | refine below_set ?_ GE115.out) | exact HB.out))) : w.heap.size ≤ gb137))
                   have n6_ := Aside0.mk ((by rw [hg]; exact (below_size (by repeat (first | (with_reducible first | exact HB.out | apply below_alloc | apply pw_below_drewN | apply below_drew1 | refine below_set ?_ GE113.out | refine below_set ?_ GE114.out | refine below_set ?_ GE115.out) | exact HB.out))) : w.heap.size ≤ gb137))
                   have n7_ := neL_ hg BK113
                   have n8_ := neG_ hg BK113
                   have n9_ := neL_ hg BK114
                   have n10_ := neG_ hg BK114
                   have n11_ := neL_ hg BK115
                   have n12_ := neG_ hg BK115
                   clear BK113
                   clear BK114
                   clear BK115
                   clear HB
                   have BK113 := n0_
                   have BK114 := n1_
                   have BK115 := n2_
                   have HB := n3_
                   have BK137 := n4_
                   have GW137 := n5_
                   have GE137 := n6_
                   have NB113_137 := n7_
                   have NB137_113 := n8_
                   have NB114_137 := n9_
                   have NB137_114 := n10_
                   have NB115_137 := n11_
                   have NB137_115 := n12_
                   clear n0_ n1_ n2_ n3_ n4_ n5_ n6_ n7_ n8_ n9_ n10_ n11_ n12_
                   clear hb hbox hg
                   refine hK.out _ _ ⟨(blk_cell BK114.out 0).trans rfl, (blk_cell BK114.out 1).trans rfl, (blk_cell BK114.out 2).trans rfl, (blk_cell BK114.out 3).trans rfl, (blk_cell BK114.out 4).trans rfl, (blk_cell BK114.out 5).trans rfl, (blk_cell BK114.out 6).trans rfl, (blk_cell BK114.out 7).trans rfl, (blk_cell BK114.out 8).trans rfl, (blk_cell BK114.out 9).trans rfl, (blk_cell BK115.out 0).trans rfl, (blk_cell BK115.out 1).trans rfl, (blk_cell BK115.out 2).trans rfl, (blk_cell BK115.out 3).trans rfl, (blk_cell BK115.out 4).trans rfl, (blk_cell BK115.out 5).trans rfl, (blk_cell BK115.out 6).trans rfl, (blk_cell BK115.out 7).trans rfl, (blk_cell BK115.out 8).trans rfl, (blk_cell BK115.out 9).trans rfl⟩ (fun hHeld => ?_)
                   clear hK K
                   refine norm_ (a' := ?_) ?_ ?_
                   rotate_left
                   ·
                    show Act.put _ (some 6) _ = _
                    simp only [Act.put, List.setIfInBounds_toArray, List.set_cons_zero, List.set_cons_succ, i64_w, i32_w]
                    rfl
                   exact norm_ (by first | (simp only [putAll, Act.put, List.setIfInBounds_toArray, List.set_cons_zero, List.set_cons_succ]; done) | (simp only [putAll, Act.put, List.setIfInBounds_toArray, List.set_cons_zero, List.set_cons_succ]; rfl)) (hJ1_5 (gb137) _ ⟨hHeld, BK113.out, BK114.out, BK115.out, BK137.out, GW137.out, GE137.out, NB113_137.out, NB137_113.out, NB114_137.out, NB137_114.out, NB115_137.out, NB137_115.out, (by repeat (first | (with_reducible first | exact HB.out | apply below_alloc | apply pw_below_drewN | apply below_drew1 | refine below_set ?_ GE113.out | refine below_set ?_ GE114.out | refine below_set ?_ GE115.out | refine below_set ?_ GE137.out) | exact HB.out))⟩)
                ·
                 skip
                 rintro ⟨gb136, gb137⟩ w50 ⟨hS_, h0_, h1_, h2_, h3_, h4_, h5_, h6_, h7_, h8_, h9_, h10_, h11_, h12_, h13_, h14_, h15_, h16_, h17_, h18_, h19_, h20_, h21_, h22_, h23_⟩
                 have n0_ : Aside0 (w50.heap[gb113]? = some (.cells #[.int .i64 a0_0, .int .i64 a0_1, .int .i64 a0_2, .int .i64 a0_3, .int .i64 a0_4, .int .i64 a0_5, .int .i64 a0_6, .int .i64 a0_7, .int .i64 a0_8, .int .i64 a0_9] 26 (0, 0))) := ⟨h0_⟩
                 have n1_ : Aside0 (w50.heap[gb114]? = some (.cells #[.int .i64 a0_0, .int .i64 1, .int .i64 a0_2, .int .i64 a0_3, .int .i64 a0_4, .int .i64 a0_5, .int .i64 a0_6, .int .i64 a0_7, .int .i64 a0_8, .int .i64 a0_9] 26 (0, 0))) := ⟨h1_⟩
                 have n2_ : Aside0 (w50.heap[gb115]? = some (.cells #[.int .i64 a0_0, .int .i64 1, .int .i64 a0_2, .int .i64 a0_3, .int .i64 a0_4, .int .i64 a0_5, .int .i64 a0_6, .int .i64 a0_7, .int .i64 a0_8, .int .i64 a0_9] 26 (0, 0))) := ⟨h2_⟩
                 have n3_ : Aside0 (w50.heap[gb136]? = some (.cells #[.int .i64 0, .int .i64 0, .int .i64 0, .int .i64 0, .int .i64 0, .int .i64 0, .int .i64 0, .int .i64 0, .int .i64 0, .int .i64 0] 26 (0, 0))) := ⟨h3_⟩
                 have n4_ : Aside0 (w50.heap[gb137]? = some (.cells #[.int .i64 0, .int .i64 0, .int .i64 0, .int .i64 0, .int .i64 0, .int .i64 0, .int .i64 0, .int .i64 0, .int .i64 0, .int .i64 0] 26 (0, 0))) := ⟨h4_⟩
                 have n5_ : Aside0 (w.heap.size ≤ gb136) := ⟨h5_⟩
                 have n6_ : Aside0 (w.heap.size ≤ gb136) := ⟨h6_⟩
                 have n7_ : Aside0 (gb113 ≠ gb136) := ⟨h7_⟩
                 have n8_ : Aside0 (gb136 ≠ gb113) := ⟨h8_⟩
                 have n9_ : Aside0 (gb114 ≠ gb136) := ⟨h9_⟩
                 have n10_ : Aside0 (gb136 ≠ gb114) := ⟨h10_⟩
                 have n11_ : Aside0 (gb115 ≠ gb136) := ⟨h11_⟩
                 have n12_ : Aside0 (gb136 ≠ gb115) := ⟨h12_⟩
                 have n13_ : Aside0 (gb137 ≠ gb136) := ⟨h13_⟩
                 have n14_ : Aside0 (gb136 ≠ gb137) := ⟨h14_⟩
                 have n15_ : Aside0 (w.heap.size ≤ gb137) := ⟨h15_⟩
                 have n16_ : Aside0 (w.heap.size ≤ gb137) := ⟨h16_⟩
                 have n17_ : Aside0 (gb113 ≠ gb137) := ⟨h17_⟩
                 have n18_ : Aside0 (gb137 ≠ gb113) := ⟨h18_⟩
                 have n19_ : Aside0 (gb114 ≠ gb137) := ⟨h19_⟩
                 have n20_ : Aside0 (gb137 ≠ gb114) := ⟨h20_⟩
                 have n21_ : Aside0 (gb115 ≠ gb137) := ⟨h21_⟩
                 have n22_ : Aside0 (gb137 ≠ gb115) := ⟨h22_⟩
                 have n23_ : Aside0 (Below w.heap.size w w50) := ⟨h23_⟩
                 clear BK113
                 clear BK114
                 clear BK115
                 clear HB
                 clear h0_ h1_ h2_ h3_ h4_ h5_ h6_ h7_ h8_ h9_ h10_ h11_ h12_ h13_ h14_ h15_ h16_ h17_ h18_ h19_ h20_ h21_ h22_ h23_
                 have BK113 := n0_
                 have BK114 := n1_
                 have BK115 := n2_
                 have BK136 := n3_
                 have BK137 := n4_
                 have GW136 := n5_
                 have GE136 := n6_
                 have NB113_136 := n7_
                 have NB136_113 := n8_
                 have NB114_136 := n9_
                 have NB136_114 := n10_
                 have NB115_136 := n11_
                 have NB136_115 := n12_
                 have NB137_136 := n13_
                 have NB136_137 := n14_
                 have GW137 := n15_
                 have GE137 := n16_
                 have NB113_137 := n17_
                 have NB137_113 := n18_
                 have NB114_137 := n19_
                 have NB137_114 := n20_
                 have NB115_137 := n21_
                 have NB137_115 := n22_
                 have HB := n23_
                 clear n0_ n1_ n2_ n3_ n4_ n5_ n6_ n7_ n8_ n9_ n10_ n11_ n12_ n13_ n14_ n15_ n16_ n17_ n18_ n19_ n20_ n21_ n22_ n23_
                 have hHeld : w50.cell? ⟨gb114, 0, none⟩ = some (.int .i64 a0_0) ∧ w50.cell? ⟨gb114, 1, none⟩ = some (.int .i64 1) ∧ w50.cell? ⟨gb114, 2, none⟩ = some (.int .i64 a0_2) ∧ w50.cell? ⟨gb114, 3, none⟩ = some (.int .i64 a0_3) ∧ w50.cell? ⟨gb114, 4, none⟩ = some (.int .i64 a0_4) ∧ w50.cell? ⟨gb114, 5, none⟩ = some (.int .i64 a0_5) ∧ w50.cell? ⟨gb114, 6, none⟩ = some (.int .i64 a0_6) ∧ w50.cell? ⟨gb114, 7, none⟩ = some (.int .i64 a0_7) ∧ w50.cell? ⟨gb114, 8, none⟩ = some (.int .i64 a0_8) ∧ w50.cell? ⟨gb114, 9, none⟩ = some (.int .i64 a0_9) ∧ w50.cell? ⟨gb115, 0, none⟩ = some (.int .i64 a0_0) ∧ w50.cell? ⟨gb115, 1, none⟩ = some (.int .i64 1) ∧ w50.cell? ⟨gb115, 2, none⟩ = some (.int .i64 a0_2) ∧ w50.cell? ⟨gb115, 3, none⟩ = some (.int .i64 a0_3) ∧ w50.cell? ⟨gb115, 4, none⟩ = some (.int .i64 a0_4) ∧ w50.cell? ⟨gb115, 5, none⟩ = some (.int .i64 a0_5) ∧ w50.cell? ⟨gb115, 6, none⟩ = some (.int .i64 a0_6) ∧ w50.cell? ⟨gb115, 7, none⟩ = some (.int .i64 a0_7) ∧ w50.cell? ⟨gb115, 8, none⟩ = some (.int .i64 a0_8) ∧ w50.cell? ⟨gb115, 9, none⟩ = some (.int .i64 a0_9) := hS_
                 refine norm_ (a' := ?_) ?_ ?_
                 rotate_left
                 ·
                  simp only [putAll, Act.put, List.setIfInBounds_toArray, List.set_cons_zero, List.set_cons_succ]
                  rfl
                 refine one_ (i := 1) (N := some 17) #[Tt,Tt,Tt,Ff,Tt,Tt,Ff,Ff] rfl rfl (one_of HT_.out (by kernel_rfl)) (by decide) (fun K hK => ?_)
                 refine goes_ Try.func10 (by kernel_rfl) rfl #[.int .i64 4, .agg #[.int .i64 a0_0, .int .i64 1, .int .i64 a0_2, .int .i64 a0_3, .int .i64 a0_4, .int .i64 a0_5, .int .i64 a0_6, .int .i64 a0_7, .int .i64 a0_8, .int .i64 a0_9]] (by rfl) rfl rfl (by (try simp only [List.map_toArray, List.map_cons, List.map_nil]); first | done | rfl | (simp only [List.length_drop, List.length_take]; rfl)) ?_
                 with_reducible refine (count_Step.calls 4 a0_0 1 a0_2 a0_3 a0_4 a0_5 a0_6 a0_7 a0_8 a0_9 t116 t117 t118 t119 t120 t121 t122 t123 t124 t125 _ A2.out).mono ?_
                 rintro e w51 ⟨rfl, hb⟩
                 refine ⟨_, rfl, ?_⟩
                 have n0_ := blkB_ hb BK113
                 have n1_ := blkB_ hb BK114
                 have n2_ := blkB_ hb BK115
                 have n3_ := blkB_ hb BK136
                 have n4_ := blkB_ hb BK137
                 have n5_ := Aside0.mk (below_step (by repeat (first | (with_reducible first | exact HB.out | apply below_alloc | apply pw_below_drewN | apply below_drew1 | refine below_set ?_ GE113.out | refine below_set ?_ GE114.out | refine below_set ?_ GE115.out | refine below_set ?_ GE136.out | refine below_set ?_ GE137.out) | exact HB.out)) hb)
                 clear BK113
                 clear BK114
                 clear BK115
                 clear BK136
                 clear BK137
                 clear HB
                 have BK113 := n0_
                 have BK114 := n1_
                 have BK115 := n2_
                 have BK136 := n3_
                 have BK137 := n4_
                 have HB := n5_
                 clear n0_ n1_ n2_ n3_ n4_ n5_
                 (try clear hb)
                 (try clear hb2)
                 (try clear hk)
                 (try clear hi)
                 refine hK.out _ _ ⟨(blk_cell BK114.out 0).trans rfl, (blk_cell BK114.out 1).trans rfl, (blk_cell BK114.out 2).trans rfl, (blk_cell BK114.out 3).trans rfl, (blk_cell BK114.out 4).trans rfl, (blk_cell BK114.out 5).trans rfl, (blk_cell BK114.out 6).trans rfl, (blk_cell BK114.out 7).trans rfl, (blk_cell BK114.out 8).trans rfl, (blk_cell BK114.out 9).trans rfl, (blk_cell BK115.out 0).trans rfl, (blk_cell BK115.out 1).trans rfl, (blk_cell BK115.out 2).trans rfl, (blk_cell BK115.out 3).trans rfl, (blk_cell BK115.out 4).trans rfl, (blk_cell BK115.out 5).trans rfl, (blk_cell BK115.out 6).trans rfl, (blk_cell BK115.out 7).trans rfl, (blk_cell BK115.out 8).trans rfl, (blk_cell BK115.out 9).trans rfl⟩ (fun hHeld => ?_)
                 clear hK K
                 refine norm_ (a' := ?_) ?_ ?_
                 rotate_left
                 ·
                  show Act.put _ (some 17) _ = _
                  simp only [Act.put, List.setIfInBounds_toArray, List.set_cons_zero, List.set_cons_succ, i64_w, i32_w]
                  rfl
                 exact norm_ (by first | (simp only [putAll, Act.put, List.setIfInBounds_toArray, List.set_cons_zero, List.set_cons_succ]; done) | (simp only [putAll, Act.put, List.setIfInBounds_toArray, List.set_cons_zero, List.set_cons_succ]; rfl)) (hJ1_4_5 (gb136, gb137) _ ⟨hHeld, BK113.out, BK114.out, BK115.out, BK136.out, BK137.out, GW136.out, GE136.out, NB113_136.out, NB136_113.out, NB114_136.out, NB136_114.out, NB115_136.out, NB136_115.out, NB137_136.out, NB136_137.out, GW137.out, GE137.out, NB113_137.out, NB137_113.out, NB114_137.out, NB137_114.out, NB115_137.out, NB137_115.out, (by repeat (first | (with_reducible first | exact HB.out | apply below_alloc | apply pw_below_drewN | apply below_drew1 | refine below_set ?_ GE113.out | refine below_set ?_ GE114.out | refine below_set ?_ GE115.out | refine below_set ?_ GE136.out | refine below_set ?_ GE137.out) | exact HB.out))⟩)
               ·
                skip
                rintro gb137 w50 ⟨hS_, h0_, h1_, h2_, h3_, h4_, h5_, h6_, h7_, h8_, h9_, h10_, h11_, h12_⟩
                have n0_ : Aside0 (w50.heap[gb113]? = some (.cells #[.int .i64 a0_0, .int .i64 a0_1, .int .i64 a0_2, .int .i64 a0_3, .int .i64 a0_4, .int .i64 a0_5, .int .i64 a0_6, .int .i64 a0_7, .int .i64 a0_8, .int .i64 a0_9] 26 (0, 0))) := ⟨h0_⟩
                have n1_ : Aside0 (w50.heap[gb114]? = some (.cells #[.int .i64 a0_0, .int .i64 1, .int .i64 a0_2, .int .i64 a0_3, .int .i64 a0_4, .int .i64 a0_5, .int .i64 a0_6, .int .i64 a0_7, .int .i64 a0_8, .int .i64 a0_9] 26 (0, 0))) := ⟨h1_⟩
                have n2_ : Aside0 (w50.heap[gb115]? = some (.cells #[.int .i64 a0_0, .int .i64 1, .int .i64 a0_2, .int .i64 a0_3, .int .i64 a0_4, .int .i64 a0_5, .int .i64 a0_6, .int .i64 a0_7, .int .i64 a0_8, .int .i64 a0_9] 26 (0, 0))) := ⟨h2_⟩
                have n3_ : Aside0 (w50.heap[gb137]? = some (.cells #[.int .i64 0, .int .i64 0, .int .i64 0, .int .i64 0, .int .i64 0, .int .i64 0, .int .i64 0, .int .i64 0, .int .i64 0, .int .i64 0] 26 (0, 0))) := ⟨h3_⟩
                have n4_ : Aside0 (w.heap.size ≤ gb137) := ⟨h4_⟩
                have n5_ : Aside0 (w.heap.size ≤ gb137) := ⟨h5_⟩
                have n6_ : Aside0 (gb113 ≠ gb137) := ⟨h6_⟩
                have n7_ : Aside0 (gb137 ≠ gb113) := ⟨h7_⟩
                have n8_ : Aside0 (gb114 ≠ gb137) := ⟨h8_⟩
                have n9_ : Aside0 (gb137 ≠ gb114) := ⟨h9_⟩
                have n10_ : Aside0 (gb115 ≠ gb137) := ⟨h10_⟩
                have n11_ : Aside0 (gb137 ≠ gb115) := ⟨h11_⟩
                have n12_ : Aside0 (Below w.heap.size w w50) := ⟨h12_⟩
                clear BK113
                clear BK114
                clear BK115
                clear HB
                clear h0_ h1_ h2_ h3_ h4_ h5_ h6_ h7_ h8_ h9_ h10_ h11_ h12_
                have BK113 := n0_
                have BK114 := n1_
                have BK115 := n2_
                have BK137 := n3_
                have GW137 := n4_
                have GE137 := n5_
                have NB113_137 := n6_
                have NB137_113 := n7_
                have NB114_137 := n8_
                have NB137_114 := n9_
                have NB115_137 := n10_
                have NB137_115 := n11_
                have HB := n12_
                clear n0_ n1_ n2_ n3_ n4_ n5_ n6_ n7_ n8_ n9_ n10_ n11_ n12_
                have hHeld : w50.cell? ⟨gb114, 0, none⟩ = some (.int .i64 a0_0) ∧ w50.cell? ⟨gb114, 1, none⟩ = some (.int .i64 1) ∧ w50.cell? ⟨gb114, 2, none⟩ = some (.int .i64 a0_2) ∧ w50.cell? ⟨gb114, 3, none⟩ = some (.int .i64 a0_3) ∧ w50.cell? ⟨gb114, 4, none⟩ = some (.int .i64 a0_4) ∧ w50.cell? ⟨gb114, 5, none⟩ = some (.int .i64 a0_5) ∧ w50.cell? ⟨gb114, 6, none⟩ = some (.int .i64 a0_6) ∧ w50.cell? ⟨gb114, 7, none⟩ = some (.int .i64 a0_7) ∧ w50.cell? ⟨gb114, 8, none⟩ = some (.int .i64 a0_8) ∧ w50.cell? ⟨gb114, 9, none⟩ = some (.int .i64 a0_9) ∧ w50.cell? ⟨gb115, 0, none⟩ = some (.int .i64 a0_0) ∧ w50.cell? ⟨gb115, 1, none⟩ = some (.int .i64 1) ∧ w50.cell? ⟨gb115, 2, none⟩ = some (.int .i64 a0_2) ∧ w50.cell? ⟨gb115, 3, none⟩ = some (.int .i64 a0_3) ∧ w50.cell? ⟨gb115, 4, none⟩ = some (.int .i64 a0_4) ∧ w50.cell? ⟨gb115, 5, none⟩ = some (.int .i64 a0_5) ∧ w50.cell? ⟨gb115, 6, none⟩ = some (.int .i64 a0_6) ∧ w50.cell? ⟨gb115, 7, none⟩ = some (.int .i64 a0_7) ∧ w50.cell? ⟨gb115, 8, none⟩ = some (.int .i64 a0_8) ∧ w50.cell? ⟨gb115, 9, none⟩ = some (.int .i64 a0_9) := hS_
                refine norm_ (a' := ?_) ?_ ?_
                rotate_left
                ·
                 simp only [putAll, Act.put, List.setIfInBounds_toArray, List.set_cons_zero, List.set_cons_succ]
                 rfl
                refine two_ (i := 3) (j := 4) (Ni := some 19) (Nj := some 5) #[Tt,Tt,Tt,Tt,Ff,Tt,Ff,Ff] #[Tt,Tt,Tt,Ff,Tt,Tt,Ff,Ff] rfl rfl rfl rfl (two_of HT_.out (by kernel_rfl)) (by decide) (by decide) (fun K hK => ?_) (fun K hK => ?_)
                ·
                 skip
                 refine goes_ Try.func10 (by kernel_rfl) rfl #[.int .i64 5, .agg #[.int .i64 a0_0, .int .i64 1, .int .i64 a0_2, .int .i64 a0_3, .int .i64 a0_4, .int .i64 a0_5, .int .i64 a0_6, .int .i64 a0_7, .int .i64 a0_8, .int .i64 a0_9]] (by rfl) rfl rfl (by (try simp only [List.map_toArray, List.map_cons, List.map_nil]); first | done | rfl | (simp only [List.length_drop, List.length_take]; rfl)) ?_
                 with_reducible refine (count_Step.calls 5 a0_0 1 a0_2 a0_3 a0_4 a0_5 a0_6 a0_7 a0_8 a0_9 t126 t127 t128 t129 t130 t131 t132 t133 t134 t135 _ A3.out).mono ?_
                 rintro e w51 ⟨rfl, hb⟩
                 refine ⟨_, rfl, ?_⟩
                 have n0_ := blkB_ hb BK113
                 have n1_ := blkB_ hb BK114
                 have n2_ := blkB_ hb BK115
                 have n3_ := blkB_ hb BK137
                 have n4_ := Aside0.mk (below_step (by repeat (first | (with_reducible first | exact HB.out | apply below_alloc | apply pw_below_drewN | apply below_drew1 | refine below_set ?_ GE113.out | refine below_set ?_ GE114.out | refine below_set ?_ GE115.out | refine below_set ?_ GE137.out) | exact HB.out)) hb)
                 clear BK113
                 clear BK114
                 clear BK115
                 clear BK137
                 clear HB
                 have BK113 := n0_
                 have BK114 := n1_
                 have BK115 := n2_
                 have BK137 := n3_
                 have HB := n4_
                 clear n0_ n1_ n2_ n3_ n4_
                 (try clear hb)
                 (try clear hb2)
                 (try clear hk)
                 (try clear hi)
                 refine hK.out _ _ ⟨(blk_cell BK114.out 0).trans rfl, (blk_cell BK114.out 1).trans rfl, (blk_cell BK114.out 2).trans rfl, (blk_cell BK114.out 3).trans rfl, (blk_cell BK114.out 4).trans rfl, (blk_cell BK114.out 5).trans rfl, (blk_cell BK114.out 6).trans rfl, (blk_cell BK114.out 7).trans rfl, (blk_cell BK114.out 8).trans rfl, (blk_cell BK114.out 9).trans rfl, (blk_cell BK115.out 0).trans rfl, (blk_cell BK115.out 1).trans rfl, (blk_cell BK115.out 2).trans rfl, (blk_cell BK115.out 3).trans rfl, (blk_cell BK115.out 4).trans rfl, (blk_cell BK115.out 5).trans rfl, (blk_cell BK115.out 6).trans rfl, (blk_cell BK115.out 7).trans rfl, (blk_cell BK115.out 8).trans rfl, (blk_cell BK115.out 9).trans rfl⟩ (fun hHeld => ?_)
                 clear hK K
                 refine norm_ (a' := ?_) ?_ ?_
                 rotate_left
                 ·
                  show Act.put _ (some 19) _ = _
                  simp only [Act.put, List.setIfInBounds_toArray, List.set_cons_zero, List.set_cons_succ, i64_w, i32_w]
                  rfl
                 exact norm_ (by first | (simp only [putAll, Act.put, List.setIfInBounds_toArray, List.set_cons_zero, List.set_cons_succ]; done) | (simp only [putAll, Act.put, List.setIfInBounds_toArray, List.set_cons_zero, List.set_cons_succ]; rfl)) (hJ1_3_5 (gb137) _ ⟨hHeld, BK113.out, BK114.out, BK115.out, BK137.out, GW137.out, GE137.out, NB113_137.out, NB137_113.out, NB114_137.out, NB137_114.out, NB115_137.out, NB137_115.out, (by repeat (first | (with_reducible first | exact HB.out | apply below_alloc | apply pw_below_drewN | apply below_drew1 | refine below_set ?_ GE113.out | refine below_set ?_ GE114.out | refine below_set ?_ GE115.out | refine below_set ?_ GE137.out) | exact HB.out))⟩)
                ·
                 skip
                 refine box_step ?hg (N := 5) ?hd (cs := #[.int .i64 0, .int .i64 0, .int .i64 0, .int .i64 0, .int .i64 0, .int .i64 0, .int .i64 0, .int .i64 0, .int .i64 0, .int .i64 0]) (t := 26) ?hr ?_; (case hd => rfl); (case hg => rfl); (case hr => first | (go_simp; done) | (go_simp; rfl))
                 intro gb136 hg w51 hbox hb
                 have n0_ := blkB_ hb BK113
                 have n1_ := blkB_ hb BK114
                 have n2_ := blkB_ hb BK115
                 have n3_ := blkB_ hb BK137
                 have n4_ := Aside0.mk (below_step (by repeat (first | (with_reducible first | exact HB.out | apply below_alloc | apply pw_below_drewN | apply below_drew1 | refine below_set ?_ GE113.out | refine below_set ?_ GE114.out | refine below_set ?_ GE115.out | refine below_set ?_ GE137.out) | exact HB.out)) hb)
                 have n5_ := Aside0.mk (hbox)
                 have n6_ := Aside0.mk ((by rw [hg]; exact (below_size (by repeat (first | (with_reducible first | exact HB.out | apply below_alloc | apply pw_below_drewN | apply below_drew1 | refine below_set ?_ GE113.out | refine below_set ?_ GE114.out | refine below_set ?_ GE115.out | refine below_set ?_ GE137.out) | exact HB.out))) : w.heap.size ≤ gb136))
                 have n7_ := Aside0.mk ((by rw [hg]; exact (below_size (by repeat (first | (with_reducible first | exact HB.out | apply below_alloc | apply pw_below_drewN | apply below_drew1 | refine below_set ?_ GE113.out | refine below_set ?_ GE114.out | refine below_set ?_ GE115.out | refine below_set ?_ GE137.out) | exact HB.out))) : w.heap.size ≤ gb136))
                 have n8_ := neL_ hg BK113
                 have n9_ := neG_ hg BK113
                 have n10_ := neL_ hg BK114
                 have n11_ := neG_ hg BK114
                 have n12_ := neL_ hg BK115
                 have n13_ := neG_ hg BK115
                 have n14_ := neL_ hg BK137
                 have n15_ := neG_ hg BK137
                 clear BK113
                 clear BK114
                 clear BK115
                 clear BK137
                 clear HB
                 have BK113 := n0_
                 have BK114 := n1_
                 have BK115 := n2_
                 have BK137 := n3_
                 have HB := n4_
                 have BK136 := n5_
                 have GW136 := n6_
                 have GE136 := n7_
                 have NB113_136 := n8_
                 have NB136_113 := n9_
                 have NB114_136 := n10_
                 have NB136_114 := n11_
                 have NB115_136 := n12_
                 have NB136_115 := n13_
                 have NB137_136 := n14_
                 have NB136_137 := n15_
                 clear n0_ n1_ n2_ n3_ n4_ n5_ n6_ n7_ n8_ n9_ n10_ n11_ n12_ n13_ n14_ n15_
                 clear hb hbox hg
                 refine hK.out _ _ ⟨(blk_cell BK114.out 0).trans rfl, (blk_cell BK114.out 1).trans rfl, (blk_cell BK114.out 2).trans rfl, (blk_cell BK114.out 3).trans rfl, (blk_cell BK114.out 4).trans rfl, (blk_cell BK114.out 5).trans rfl, (blk_cell BK114.out 6).trans rfl, (blk_cell BK114.out 7).trans rfl, (blk_cell BK114.out 8).trans rfl, (blk_cell BK114.out 9).trans rfl, (blk_cell BK115.out 0).trans rfl, (blk_cell BK115.out 1).trans rfl, (blk_cell BK115.out 2).trans rfl, (blk_cell BK115.out 3).trans rfl, (blk_cell BK115.out 4).trans rfl, (blk_cell BK115.out 5).trans rfl, (blk_cell BK115.out 6).trans rfl, (blk_cell BK115.out 7).trans rfl, (blk_cell BK115.out 8).trans rfl, (blk_cell BK115.out 9).trans rfl⟩ (fun hHeld => ?_)
                 clear hK K
                 refine norm_ (a' := ?_) ?_ ?_
                 rotate_left
                 ·
                  show Act.put _ (some 5) _ = _
                  simp only [Act.put, List.setIfInBounds_toArray, List.set_cons_zero, List.set_cons_succ, i64_w, i32_w]
                  rfl
                 exact norm_ (by first | (simp only [putAll, Act.put, List.setIfInBounds_toArray, List.set_cons_zero, List.set_cons_succ]; done) | (simp only [putAll, Act.put, List.setIfInBounds_toArray, List.set_cons_zero, List.set_cons_succ]; rfl)) (hJ1_4_5 (gb136, gb137) _ ⟨hHeld, BK113.out, BK114.out, BK115.out, BK136.out, BK137.out, GW136.out, GE136.out, NB113_136.out, NB136_113.out, NB114_136.out, NB136_114.out, NB115_136.out, NB136_115.out, NB137_136.out, NB136_137.out, GW137.out, GE137.out, NB113_137.out, NB137_113.out, NB114_137.out, NB137_114.out, NB115_137.out, NB137_115.out, (by repeat (first | (with_reducible first | exact HB.out | apply below_alloc | apply pw_below_drewN | apply below_drew1 | refine below_set ?_ GE113.out | refine below_set ?_ GE114.out | refine below_set ?_ GE115.out | refine below_set ?_ GE137.out | refine below_set ?_ GE136.out) | exact HB.out))⟩)
              ·
               skip
               rintro gb136 w50 ⟨hS_, h0_, h1_, h2_, h3_, h4_, h5_, h6_, h7_, h8_, h9_, h10_, h11_, h12_⟩
               have n0_ : Aside0 (w50.heap[gb113]? = some (.cells #[.int .i64 a0_0, .int .i64 a0_1, .int .i64 a0_2, .int .i64 a0_3, .int .i64 a0_4, .int .i64 a0_5, .int .i64 a0_6, .int .i64 a0_7, .int .i64 a0_8, .int .i64 a0_9] 26 (0, 0))) := ⟨h0_⟩
               have n1_ : Aside0 (w50.heap[gb114]? = some (.cells #[.int .i64 a0_0, .int .i64 1, .int .i64 a0_2, .int .i64 a0_3, .int .i64 a0_4, .int .i64 a0_5, .int .i64 a0_6, .int .i64 a0_7, .int .i64 a0_8, .int .i64 a0_9] 26 (0, 0))) := ⟨h1_⟩
               have n2_ : Aside0 (w50.heap[gb115]? = some (.cells #[.int .i64 a0_0, .int .i64 1, .int .i64 a0_2, .int .i64 a0_3, .int .i64 a0_4, .int .i64 a0_5, .int .i64 a0_6, .int .i64 a0_7, .int .i64 a0_8, .int .i64 a0_9] 26 (0, 0))) := ⟨h2_⟩
               have n3_ : Aside0 (w50.heap[gb136]? = some (.cells #[.int .i64 0, .int .i64 0, .int .i64 0, .int .i64 0, .int .i64 0, .int .i64 0, .int .i64 0, .int .i64 0, .int .i64 0, .int .i64 0] 26 (0, 0))) := ⟨h3_⟩
               have n4_ : Aside0 (w.heap.size ≤ gb136) := ⟨h4_⟩
               have n5_ : Aside0 (w.heap.size ≤ gb136) := ⟨h5_⟩
               have n6_ : Aside0 (gb113 ≠ gb136) := ⟨h6_⟩
               have n7_ : Aside0 (gb136 ≠ gb113) := ⟨h7_⟩
               have n8_ : Aside0 (gb114 ≠ gb136) := ⟨h8_⟩
               have n9_ : Aside0 (gb136 ≠ gb114) := ⟨h9_⟩
               have n10_ : Aside0 (gb115 ≠ gb136) := ⟨h10_⟩
               have n11_ : Aside0 (gb136 ≠ gb115) := ⟨h11_⟩
               have n12_ : Aside0 (Below w.heap.size w w50) := ⟨h12_⟩
               clear BK113
               clear BK114
               clear BK115
               clear HB
               clear h0_ h1_ h2_ h3_ h4_ h5_ h6_ h7_ h8_ h9_ h10_ h11_ h12_
               have BK113 := n0_
               have BK114 := n1_
               have BK115 := n2_
               have BK136 := n3_
               have GW136 := n4_
               have GE136 := n5_
               have NB113_136 := n6_
               have NB136_113 := n7_
               have NB114_136 := n8_
               have NB136_114 := n9_
               have NB115_136 := n10_
               have NB136_115 := n11_
               have HB := n12_
               clear n0_ n1_ n2_ n3_ n4_ n5_ n6_ n7_ n8_ n9_ n10_ n11_ n12_
               have hHeld : w50.cell? ⟨gb114, 0, none⟩ = some (.int .i64 a0_0) ∧ w50.cell? ⟨gb114, 1, none⟩ = some (.int .i64 1) ∧ w50.cell? ⟨gb114, 2, none⟩ = some (.int .i64 a0_2) ∧ w50.cell? ⟨gb114, 3, none⟩ = some (.int .i64 a0_3) ∧ w50.cell? ⟨gb114, 4, none⟩ = some (.int .i64 a0_4) ∧ w50.cell? ⟨gb114, 5, none⟩ = some (.int .i64 a0_5) ∧ w50.cell? ⟨gb114, 6, none⟩ = some (.int .i64 a0_6) ∧ w50.cell? ⟨gb114, 7, none⟩ = some (.int .i64 a0_7) ∧ w50.cell? ⟨gb114, 8, none⟩ = some (.int .i64 a0_8) ∧ w50.cell? ⟨gb114, 9, none⟩ = some (.int .i64 a0_9) ∧ w50.cell? ⟨gb115, 0, none⟩ = some (.int .i64 a0_0) ∧ w50.cell? ⟨gb115, 1, none⟩ = some (.int .i64 1) ∧ w50.cell? ⟨gb115, 2, none⟩ = some (.int .i64 a0_2) ∧ w50.cell? ⟨gb115, 3, none⟩ = some (.int .i64 a0_3) ∧ w50.cell? ⟨gb115, 4, none⟩ = some (.int .i64 a0_4) ∧ w50.cell? ⟨gb115, 5, none⟩ = some (.int .i64 a0_5) ∧ w50.cell? ⟨gb115, 6, none⟩ = some (.int .i64 a0_6) ∧ w50.cell? ⟨gb115, 7, none⟩ = some (.int .i64 a0_7) ∧ w50.cell? ⟨gb115, 8, none⟩ = some (.int .i64 a0_8) ∧ w50.cell? ⟨gb115, 9, none⟩ = some (.int .i64 a0_9) := hS_
               refine norm_ (a' := ?_) ?_ ?_
               rotate_left
               ·
                simp only [putAll, Act.put, List.setIfInBounds_toArray, List.set_cons_zero, List.set_cons_succ]
                rfl
               refine two_ (i := 3) (j := 5) (Ni := some 19) (Nj := some 6) #[Tt,Tt,Tt,Tt,Tt,Ff,Ff,Ff] #[Tt,Tt,Tt,Ff,Tt,Tt,Ff,Ff] rfl rfl rfl rfl (two_of HT_.out (by kernel_rfl)) (by decide) (by decide) (fun K hK => ?_) (fun K hK => ?_)
               ·
                skip
                refine goes_ Try.func10 (by kernel_rfl) rfl #[.int .i64 5, .agg #[.int .i64 a0_0, .int .i64 1, .int .i64 a0_2, .int .i64 a0_3, .int .i64 a0_4, .int .i64 a0_5, .int .i64 a0_6, .int .i64 a0_7, .int .i64 a0_8, .int .i64 a0_9]] (by rfl) rfl rfl (by (try simp only [List.map_toArray, List.map_cons, List.map_nil]); first | done | rfl | (simp only [List.length_drop, List.length_take]; rfl)) ?_
                with_reducible refine (count_Step.calls 5 a0_0 1 a0_2 a0_3 a0_4 a0_5 a0_6 a0_7 a0_8 a0_9 t126 t127 t128 t129 t130 t131 t132 t133 t134 t135 _ A3.out).mono ?_
                rintro e w51 ⟨rfl, hb⟩
                refine ⟨_, rfl, ?_⟩
                have n0_ := blkB_ hb BK113
                have n1_ := blkB_ hb BK114
                have n2_ := blkB_ hb BK115
                have n3_ := blkB_ hb BK136
                have n4_ := Aside0.mk (below_step (by repeat (first | (with_reducible first | exact HB.out | apply below_alloc | apply pw_below_drewN | apply below_drew1 | refine below_set ?_ GE113.out | refine below_set ?_ GE114.out | refine below_set ?_ GE115.out | refine below_set ?_ GE136.out) | exact HB.out)) hb)
                clear BK113
                clear BK114
                clear BK115
                clear BK136
                clear HB
                have BK113 := n0_
                have BK114 := n1_
                have BK115 := n2_
                have BK136 := n3_
                have HB := n4_
                clear n0_ n1_ n2_ n3_ n4_
                (try clear hb)
                (try clear hb2)
                (try clear hk)
                (try clear hi)
                refine hK.out _ _ ⟨(blk_cell BK114.out 0).trans rfl, (blk_cell BK114.out 1).trans rfl, (blk_cell BK114.out 2).trans rfl, (blk_cell BK114.out 3).trans rfl, (blk_cell BK114.out 4).trans rfl, (blk_cell BK114.out 5).trans rfl, (blk_cell BK114.out 6).trans rfl, (blk_cell BK114.out 7).trans rfl, (blk_cell BK114.out 8).trans rfl, (blk_cell BK114.out 9).trans rfl, (blk_cell BK115.out 0).trans rfl, (blk_cell BK115.out 1).trans rfl, (blk_cell BK115.out 2).trans rfl, (blk_cell BK115.out 3).trans rfl, (blk_cell BK115.out 4).trans rfl, (blk_cell BK115.out 5).trans rfl, (blk_cell BK115.out 6).trans rfl, (blk_cell BK115.out 7).trans rfl, (blk_cell BK115.out 8).trans rfl, (blk_cell BK115.out 9).trans rfl⟩ (fun hHeld => ?_)
                clear hK K
                refine norm_ (a' := ?_) ?_ ?_
                rotate_left
                ·
                 show Act.put _ (some 19) _ = _
                 simp only [Act.put, List.setIfInBounds_toArray, List.set_cons_zero, List.set_cons_succ, i64_w, i32_w]
                 rfl
                exact norm_ (by first | (simp only [putAll, Act.put, List.setIfInBounds_toArray, List.set_cons_zero, List.set_cons_succ]; done) | (simp only [putAll, Act.put, List.setIfInBounds_toArray, List.set_cons_zero, List.set_cons_succ]; rfl)) (hJ1_3_4 (gb136) _ ⟨hHeld, BK113.out, BK114.out, BK115.out, BK136.out, GW136.out, GE136.out, NB113_136.out, NB136_113.out, NB114_136.out, NB136_114.out, NB115_136.out, NB136_115.out, (by repeat (first | (with_reducible first | exact HB.out | apply below_alloc | apply pw_below_drewN | apply below_drew1 | refine below_set ?_ GE113.out | refine below_set ?_ GE114.out | refine below_set ?_ GE115.out | refine below_set ?_ GE136.out) | exact HB.out))⟩)
               ·
                skip
                refine box_step ?hg (N := 6) ?hd (cs := #[.int .i64 0, .int .i64 0, .int .i64 0, .int .i64 0, .int .i64 0, .int .i64 0, .int .i64 0, .int .i64 0, .int .i64 0, .int .i64 0]) (t := 26) ?hr ?_; (case hd => rfl); (case hg => rfl); (case hr => first | (go_simp; done) | (go_simp; rfl))
                intro gb137 hg w51 hbox hb
                have n0_ := blkB_ hb BK113
                have n1_ := blkB_ hb BK114
                have n2_ := blkB_ hb BK115
                have n3_ := blkB_ hb BK136
                have n4_ := Aside0.mk (below_step (by repeat (first | (with_reducible first | exact HB.out | apply below_alloc | apply pw_below_drewN | apply below_drew1 | refine below_set ?_ GE113.out | refine below_set ?_ GE114.out | refine below_set ?_ GE115.out | refine below_set ?_ GE136.out) | exact HB.out)) hb)
                have n5_ := Aside0.mk (hbox)
                have n6_ := Aside0.mk ((by rw [hg]; exact (below_size (by repeat (first | (with_reducible first | exact HB.out | apply below_alloc | apply pw_below_drewN | apply below_drew1 | refine below_set ?_ GE113.out | refine below_set ?_ GE114.out | refine below_set ?_ GE115.out | refine below_set ?_ GE136.out) | exact HB.out))) : w.heap.size ≤ gb137))
                have n7_ := Aside0.mk ((by rw [hg]; exact (below_size (by repeat (first | (with_reducible first | exact HB.out | apply below_alloc | apply pw_below_drewN | apply below_drew1 | refine below_set ?_ GE113.out | refine below_set ?_ GE114.out | refine below_set ?_ GE115.out | refine below_set ?_ GE136.out) | exact HB.out))) : w.heap.size ≤ gb137))
                have n8_ := neL_ hg BK113
                have n9_ := neG_ hg BK113
                have n10_ := neL_ hg BK114
                have n11_ := neG_ hg BK114
                have n12_ := neL_ hg BK115
                have n13_ := neG_ hg BK115
                have n14_ := neL_ hg BK136
                have n15_ := neG_ hg BK136
                clear BK113
                clear BK114
                clear BK115
                clear BK136
                clear HB
                have BK113 := n0_
                have BK114 := n1_
                have BK115 := n2_
                have BK136 := n3_
                have HB := n4_
                have BK137 := n5_
                have GW137 := n6_
                have GE137 := n7_
                have NB113_137 := n8_
                have NB137_113 := n9_
                have NB114_137 := n10_
                have NB137_114 := n11_
                have NB115_137 := n12_
                have NB137_115 := n13_
                have NB136_137 := n14_
                have NB137_136 := n15_
                clear n0_ n1_ n2_ n3_ n4_ n5_ n6_ n7_ n8_ n9_ n10_ n11_ n12_ n13_ n14_ n15_
                clear hb hbox hg
                refine hK.out _ _ ⟨(blk_cell BK114.out 0).trans rfl, (blk_cell BK114.out 1).trans rfl, (blk_cell BK114.out 2).trans rfl, (blk_cell BK114.out 3).trans rfl, (blk_cell BK114.out 4).trans rfl, (blk_cell BK114.out 5).trans rfl, (blk_cell BK114.out 6).trans rfl, (blk_cell BK114.out 7).trans rfl, (blk_cell BK114.out 8).trans rfl, (blk_cell BK114.out 9).trans rfl, (blk_cell BK115.out 0).trans rfl, (blk_cell BK115.out 1).trans rfl, (blk_cell BK115.out 2).trans rfl, (blk_cell BK115.out 3).trans rfl, (blk_cell BK115.out 4).trans rfl, (blk_cell BK115.out 5).trans rfl, (blk_cell BK115.out 6).trans rfl, (blk_cell BK115.out 7).trans rfl, (blk_cell BK115.out 8).trans rfl, (blk_cell BK115.out 9).trans rfl⟩ (fun hHeld => ?_)
                clear hK K
                refine norm_ (a' := ?_) ?_ ?_
                rotate_left
                ·
                 show Act.put _ (some 6) _ = _
                 simp only [Act.put, List.setIfInBounds_toArray, List.set_cons_zero, List.set_cons_succ, i64_w, i32_w]
                 rfl
                exact norm_ (by first | (simp only [putAll, Act.put, List.setIfInBounds_toArray, List.set_cons_zero, List.set_cons_succ]; done) | (simp only [putAll, Act.put, List.setIfInBounds_toArray, List.set_cons_zero, List.set_cons_succ]; rfl)) (hJ1_4_5 (gb136, gb137) _ ⟨hHeld, BK113.out, BK114.out, BK115.out, BK136.out, BK137.out, GW136.out, GE136.out, NB113_136.out, NB136_113.out, NB114_136.out, NB136_114.out, NB115_136.out, NB136_115.out, NB137_136.out, NB136_137.out, GW137.out, GE137.out, NB113_137.out, NB137_113.out, NB114_137.out, NB137_114.out, NB115_137.out, NB137_115.out, (by repeat (first | (with_reducible first | exact HB.out | apply below_alloc | apply pw_below_drewN | apply below_drew1 | refine below_set ?_ GE113.out | refine below_set ?_ GE114.out | refine below_set ?_ GE115.out | refine below_set ?_ GE136.out | refine below_set ?_ GE137.out) | exact HB.out))⟩)
             ·
              skip
              rintro _ w50 ⟨hS_, h0_, h1_, h2_, h3_⟩
              have n0_ : Aside0 (w50.heap[gb113]? = some (.cells #[.int .i64 a0_0, .int .i64 a0_1, .int .i64 a0_2, .int .i64 a0_3, .int .i64 a0_4, .int .i64 a0_5, .int .i64 a0_6, .int .i64 a0_7, .int .i64 a0_8, .int .i64 a0_9] 26 (0, 0))) := ⟨h0_⟩
              have n1_ : Aside0 (w50.heap[gb114]? = some (.cells #[.int .i64 a0_0, .int .i64 1, .int .i64 a0_2, .int .i64 a0_3, .int .i64 a0_4, .int .i64 a0_5, .int .i64 a0_6, .int .i64 a0_7, .int .i64 a0_8, .int .i64 a0_9] 26 (0, 0))) := ⟨h1_⟩
              have n2_ : Aside0 (w50.heap[gb115]? = some (.cells #[.int .i64 a0_0, .int .i64 1, .int .i64 a0_2, .int .i64 a0_3, .int .i64 a0_4, .int .i64 a0_5, .int .i64 a0_6, .int .i64 a0_7, .int .i64 a0_8, .int .i64 a0_9] 26 (0, 0))) := ⟨h2_⟩
              have n3_ : Aside0 (Below w.heap.size w w50) := ⟨h3_⟩
              clear BK113
              clear BK114
              clear BK115
              clear HB
              clear h0_ h1_ h2_ h3_
              have BK113 := n0_
              have BK114 := n1_
              have BK115 := n2_
              have HB := n3_
              clear n0_ n1_ n2_ n3_
              have hHeld : w50.cell? ⟨gb114, 0, none⟩ = some (.int .i64 a0_0) ∧ w50.cell? ⟨gb114, 1, none⟩ = some (.int .i64 1) ∧ w50.cell? ⟨gb114, 2, none⟩ = some (.int .i64 a0_2) ∧ w50.cell? ⟨gb114, 3, none⟩ = some (.int .i64 a0_3) ∧ w50.cell? ⟨gb114, 4, none⟩ = some (.int .i64 a0_4) ∧ w50.cell? ⟨gb114, 5, none⟩ = some (.int .i64 a0_5) ∧ w50.cell? ⟨gb114, 6, none⟩ = some (.int .i64 a0_6) ∧ w50.cell? ⟨gb114, 7, none⟩ = some (.int .i64 a0_7) ∧ w50.cell? ⟨gb114, 8, none⟩ = some (.int .i64 a0_8) ∧ w50.cell? ⟨gb114, 9, none⟩ = some (.int .i64 a0_9) ∧ w50.cell? ⟨gb115, 0, none⟩ = some (.int .i64 a0_0) ∧ w50.cell? ⟨gb115, 1, none⟩ = some (.int .i64 1) ∧ w50.cell? ⟨gb115, 2, none⟩ = some (.int .i64 a0_2) ∧ w50.cell? ⟨gb115, 3, none⟩ = some (.int .i64 a0_3) ∧ w50.cell? ⟨gb115, 4, none⟩ = some (.int .i64 a0_4) ∧ w50.cell? ⟨gb115, 5, none⟩ = some (.int .i64 a0_5) ∧ w50.cell? ⟨gb115, 6, none⟩ = some (.int .i64 a0_6) ∧ w50.cell? ⟨gb115, 7, none⟩ = some (.int .i64 a0_7) ∧ w50.cell? ⟨gb115, 8, none⟩ = some (.int .i64 a0_8) ∧ w50.cell? ⟨gb115, 9, none⟩ = some (.int .i64 a0_9) := hS_
              refine norm_ (a' := ?_) ?_ ?_
              rotate_left
              ·
               simp only [putAll, Act.put, List.setIfInBounds_toArray, List.set_cons_zero, List.set_cons_succ]
               rfl
              refine two_ (i := 4) (j := 5) (Ni := some 5) (Nj := some 6) #[Tt,Tt,Tt,Tt,Tt,Ff,Ff,Ff] #[Tt,Tt,Tt,Tt,Ff,Tt,Ff,Ff] rfl rfl rfl rfl (two_of HT_.out (by kernel_rfl)) (by decide) (by decide) (fun K hK => ?_) (fun K hK => ?_)
              ·
               skip
               refine box_step ?hg (N := 5) ?hd (cs := #[.int .i64 0, .int .i64 0, .int .i64 0, .int .i64 0, .int .i64 0, .int .i64 0, .int .i64 0, .int .i64 0, .int .i64 0, .int .i64 0]) (t := 26) ?hr ?_; (case hd => rfl); (case hg => rfl); (case hr => first | (go_simp; done) | (go_simp; rfl))
               intro gb136 hg w51 hbox hb
               have n0_ := blkB_ hb BK113
               have n1_ := blkB_ hb BK114
               have n2_ := blkB_ hb BK115
               have n3_ := Aside0.mk (below_step (by repeat (first | (with_reducible first | exact HB.out | apply below_alloc | apply pw_below_drewN | apply below_drew1 | refine below_set ?_ GE113.out | refine below_set ?_ GE114.out | refine below_set ?_ GE115.out) | exact HB.out)) hb)
               have n4_ := Aside0.mk (hbox)
               have n5_ := Aside0.mk ((by rw [hg]; exact (below_size (by repeat (first | (with_reducible first | exact HB.out | apply below_alloc | apply pw_below_drewN | apply below_drew1 | refine below_set ?_ GE113.out | refine below_set ?_ GE114.out | refine below_set ?_ GE115.out) | exact HB.out))) : w.heap.size ≤ gb136))
               have n6_ := Aside0.mk ((by rw [hg]; exact (below_size (by repeat (first | (with_reducible first | exact HB.out | apply below_alloc | apply pw_below_drewN | apply below_drew1 | refine below_set ?_ GE113.out | refine below_set ?_ GE114.out | refine below_set ?_ GE115.out) | exact HB.out))) : w.heap.size ≤ gb136))
               have n7_ := neL_ hg BK113
               have n8_ := neG_ hg BK113
               have n9_ := neL_ hg BK114
               have n10_ := neG_ hg BK114
               have n11_ := neL_ hg BK115
               have n12_ := neG_ hg BK115
               clear BK113
               clear BK114
               clear BK115
               clear HB
               have BK113 := n0_
               have BK114 := n1_
               have BK115 := n2_
               have HB := n3_
               have BK136 := n4_
               have GW136 := n5_
               have GE136 := n6_
               have NB113_136 := n7_
               have NB136_113 := n8_
               have NB114_136 := n9_
               have NB136_114 := n10_
               have NB115_136 := n11_
               have NB136_115 := n12_
               clear n0_ n1_ n2_ n3_ n4_ n5_ n6_ n7_ n8_ n9_ n10_ n11_ n12_
               clear hb hbox hg
               refine hK.out _ _ ⟨(blk_cell BK114.out 0).trans rfl, (blk_cell BK114.out 1).trans rfl, (blk_cell BK114.out 2).trans rfl, (blk_cell BK114.out 3).trans rfl, (blk_cell BK114.out 4).trans rfl, (blk_cell BK114.out 5).trans rfl, (blk_cell BK114.out 6).trans rfl, (blk_cell BK114.out 7).trans rfl, (blk_cell BK114.out 8).trans rfl, (blk_cell BK114.out 9).trans rfl, (blk_cell BK115.out 0).trans rfl, (blk_cell BK115.out 1).trans rfl, (blk_cell BK115.out 2).trans rfl, (blk_cell BK115.out 3).trans rfl, (blk_cell BK115.out 4).trans rfl, (blk_cell BK115.out 5).trans rfl, (blk_cell BK115.out 6).trans rfl, (blk_cell BK115.out 7).trans rfl, (blk_cell BK115.out 8).trans rfl, (blk_cell BK115.out 9).trans rfl⟩ (fun hHeld => ?_)
               clear hK K
               refine norm_ (a' := ?_) ?_ ?_
               rotate_left
               ·
                show Act.put _ (some 5) _ = _
                simp only [Act.put, List.setIfInBounds_toArray, List.set_cons_zero, List.set_cons_succ, i64_w, i32_w]
                rfl
               exact norm_ (by first | (simp only [putAll, Act.put, List.setIfInBounds_toArray, List.set_cons_zero, List.set_cons_succ]; done) | (simp only [putAll, Act.put, List.setIfInBounds_toArray, List.set_cons_zero, List.set_cons_succ]; rfl)) (hJ1_3_4 (gb136) _ ⟨hHeld, BK113.out, BK114.out, BK115.out, BK136.out, GW136.out, GE136.out, NB113_136.out, NB136_113.out, NB114_136.out, NB136_114.out, NB115_136.out, NB136_115.out, (by repeat (first | (with_reducible first | exact HB.out | apply below_alloc | apply pw_below_drewN | apply below_drew1 | refine below_set ?_ GE113.out | refine below_set ?_ GE114.out | refine below_set ?_ GE115.out | refine below_set ?_ GE136.out) | exact HB.out))⟩)
              ·
               skip
               refine box_step ?hg (N := 6) ?hd (cs := #[.int .i64 0, .int .i64 0, .int .i64 0, .int .i64 0, .int .i64 0, .int .i64 0, .int .i64 0, .int .i64 0, .int .i64 0, .int .i64 0]) (t := 26) ?hr ?_; (case hd => rfl); (case hg => rfl); (case hr => first | (go_simp; done) | (go_simp; rfl))
               intro gb137 hg w51 hbox hb
               have n0_ := blkB_ hb BK113
               have n1_ := blkB_ hb BK114
               have n2_ := blkB_ hb BK115
               have n3_ := Aside0.mk (below_step (by repeat (first | (with_reducible first | exact HB.out | apply below_alloc | apply pw_below_drewN | apply below_drew1 | refine below_set ?_ GE113.out | refine below_set ?_ GE114.out | refine below_set ?_ GE115.out) | exact HB.out)) hb)
               have n4_ := Aside0.mk (hbox)
               have n5_ := Aside0.mk ((by rw [hg]; exact (below_size (by repeat (first | (with_reducible first | exact HB.out | apply below_alloc | apply pw_below_drewN | apply below_drew1 | refine below_set ?_ GE113.out | refine below_set ?_ GE114.out | refine below_set ?_ GE115.out) | exact HB.out))) : w.heap.size ≤ gb137))
               have n6_ := Aside0.mk ((by rw [hg]; exact (below_size (by repeat (first | (with_reducible first | exact HB.out | apply below_alloc | apply pw_below_drewN | apply below_drew1 | refine below_set ?_ GE113.out | refine below_set ?_ GE114.out | refine below_set ?_ GE115.out) | exact HB.out))) : w.heap.size ≤ gb137))
               have n7_ := neL_ hg BK113
               have n8_ := neG_ hg BK113
               have n9_ := neL_ hg BK114
               have n10_ := neG_ hg BK114
               have n11_ := neL_ hg BK115
               have n12_ := neG_ hg BK115
               clear BK113
               clear BK114
               clear BK115
               clear HB
               have BK113 := n0_
               have BK114 := n1_
               have BK115 := n2_
               have HB := n3_
               have BK137 := n4_
               have GW137 := n5_
               have GE137 := n6_
               have NB113_137 := n7_
               have NB137_113 := n8_
               have NB114_137 := n9_
               have NB137_114 := n10_
               have NB115_137 := n11_
               have NB137_115 := n12_
               clear n0_ n1_ n2_ n3_ n4_ n5_ n6_ n7_ n8_ n9_ n10_ n11_ n12_
               clear hb hbox hg
               refine hK.out _ _ ⟨(blk_cell BK114.out 0).trans rfl, (blk_cell BK114.out 1).trans rfl, (blk_cell BK114.out 2).trans rfl, (blk_cell BK114.out 3).trans rfl, (blk_cell BK114.out 4).trans rfl, (blk_cell BK114.out 5).trans rfl, (blk_cell BK114.out 6).trans rfl, (blk_cell BK114.out 7).trans rfl, (blk_cell BK114.out 8).trans rfl, (blk_cell BK114.out 9).trans rfl, (blk_cell BK115.out 0).trans rfl, (blk_cell BK115.out 1).trans rfl, (blk_cell BK115.out 2).trans rfl, (blk_cell BK115.out 3).trans rfl, (blk_cell BK115.out 4).trans rfl, (blk_cell BK115.out 5).trans rfl, (blk_cell BK115.out 6).trans rfl, (blk_cell BK115.out 7).trans rfl, (blk_cell BK115.out 8).trans rfl, (blk_cell BK115.out 9).trans rfl⟩ (fun hHeld => ?_)
               clear hK K
               refine norm_ (a' := ?_) ?_ ?_
               rotate_left
               ·
                show Act.put _ (some 6) _ = _
                simp only [Act.put, List.setIfInBounds_toArray, List.set_cons_zero, List.set_cons_succ, i64_w, i32_w]
                rfl
               exact norm_ (by first | (simp only [putAll, Act.put, List.setIfInBounds_toArray, List.set_cons_zero, List.set_cons_succ]; done) | (simp only [putAll, Act.put, List.setIfInBounds_toArray, List.set_cons_zero, List.set_cons_succ]; rfl)) (hJ1_3_5 (gb137) _ ⟨hHeld, BK113.out, BK114.out, BK115.out, BK137.out, GW137.out, GE137.out, NB113_137.out, NB137_113.out, NB114_137.out, NB137_114.out, NB115_137.out, NB137_115.out, (by repeat (first | (with_reducible first | exact HB.out | apply below_alloc | apply pw_below_drewN | apply below_drew1 | refine below_set ?_ GE113.out | refine below_set ?_ GE114.out | refine below_set ?_ GE115.out | refine below_set ?_ GE137.out) | exact HB.out))⟩)
            ·
             skip
             rintro ⟨gb136, gb137⟩ w51 ⟨hS_, h0_, h1_, h2_, h3_, h4_, h5_, h6_, h7_, h8_, h9_, h10_, h11_, h12_, h13_, h14_, h15_, h16_, h17_, h18_, h19_, h20_, h21_, h22_, h23_⟩
             have n0_ : Aside0 (w51.heap[gb113]? = some (.cells #[.int .i64 a0_0, .int .i64 a0_1, .int .i64 a0_2, .int .i64 a0_3, .int .i64 a0_4, .int .i64 a0_5, .int .i64 a0_6, .int .i64 a0_7, .int .i64 a0_8, .int .i64 a0_9] 26 (0, 0))) := ⟨h0_⟩
             have n1_ : Aside0 (w51.heap[gb114]? = some (.cells #[.int .i64 a0_0, .int .i64 1, .int .i64 a0_2, .int .i64 a0_3, .int .i64 a0_4, .int .i64 a0_5, .int .i64 a0_6, .int .i64 a0_7, .int .i64 a0_8, .int .i64 a0_9] 26 (0, 0))) := ⟨h1_⟩
             have n2_ : Aside0 (w51.heap[gb115]? = some (.cells #[.int .i64 a0_0, .int .i64 1, .int .i64 a0_2, .int .i64 a0_3, .int .i64 a0_4, .int .i64 a0_5, .int .i64 a0_6, .int .i64 a0_7, .int .i64 a0_8, .int .i64 a0_9] 26 (0, 0))) := ⟨h2_⟩
             have n3_ : Aside0 (w51.heap[gb136]? = some (.cells #[.int .i64 0, .int .i64 0, .int .i64 0, .int .i64 0, .int .i64 0, .int .i64 0, .int .i64 0, .int .i64 0, .int .i64 0, .int .i64 0] 26 (0, 0))) := ⟨h3_⟩
             have n4_ : Aside0 (w51.heap[gb137]? = some (.cells #[.int .i64 0, .int .i64 0, .int .i64 0, .int .i64 0, .int .i64 0, .int .i64 0, .int .i64 0, .int .i64 0, .int .i64 0, .int .i64 0] 26 (0, 0))) := ⟨h4_⟩
             have n5_ : Aside0 (w.heap.size ≤ gb136) := ⟨h5_⟩
             have n6_ : Aside0 (w.heap.size ≤ gb136) := ⟨h6_⟩
             have n7_ : Aside0 (gb113 ≠ gb136) := ⟨h7_⟩
             have n8_ : Aside0 (gb136 ≠ gb113) := ⟨h8_⟩
             have n9_ : Aside0 (gb114 ≠ gb136) := ⟨h9_⟩
             have n10_ : Aside0 (gb136 ≠ gb114) := ⟨h10_⟩
             have n11_ : Aside0 (gb115 ≠ gb136) := ⟨h11_⟩
             have n12_ : Aside0 (gb136 ≠ gb115) := ⟨h12_⟩
             have n13_ : Aside0 (gb137 ≠ gb136) := ⟨h13_⟩
             have n14_ : Aside0 (gb136 ≠ gb137) := ⟨h14_⟩
             have n15_ : Aside0 (w.heap.size ≤ gb137) := ⟨h15_⟩
             have n16_ : Aside0 (w.heap.size ≤ gb137) := ⟨h16_⟩
             have n17_ : Aside0 (gb113 ≠ gb137) := ⟨h17_⟩
             have n18_ : Aside0 (gb137 ≠ gb113) := ⟨h18_⟩
             have n19_ : Aside0 (gb114 ≠ gb137) := ⟨h19_⟩
             have n20_ : Aside0 (gb137 ≠ gb114) := ⟨h20_⟩
             have n21_ : Aside0 (gb115 ≠ gb137) := ⟨h21_⟩
             have n22_ : Aside0 (gb137 ≠ gb115) := ⟨h22_⟩
             have n23_ : Aside0 (Below w.heap.size w w51) := ⟨h23_⟩
             clear BK113
             clear BK114
             clear BK115
             clear HB
             clear h0_ h1_ h2_ h3_ h4_ h5_ h6_ h7_ h8_ h9_ h10_ h11_ h12_ h13_ h14_ h15_ h16_ h17_ h18_ h19_ h20_ h21_ h22_ h23_
             have BK113 := n0_
             have BK114 := n1_
             have BK115 := n2_
             have BK136 := n3_
             have BK137 := n4_
             have GW136 := n5_
             have GE136 := n6_
             have NB113_136 := n7_
             have NB136_113 := n8_
             have NB114_136 := n9_
             have NB136_114 := n10_
             have NB115_136 := n11_
             have NB136_115 := n12_
             have NB137_136 := n13_
             have NB136_137 := n14_
             have GW137 := n15_
             have GE137 := n16_
             have NB113_137 := n17_
             have NB137_113 := n18_
             have NB114_137 := n19_
             have NB137_114 := n20_
             have NB115_137 := n21_
             have NB137_115 := n22_
             have HB := n23_
             clear n0_ n1_ n2_ n3_ n4_ n5_ n6_ n7_ n8_ n9_ n10_ n11_ n12_ n13_ n14_ n15_ n16_ n17_ n18_ n19_ n20_ n21_ n22_ n23_
             have hHeld : w51.cell? ⟨gb114, 0, none⟩ = some (.int .i64 a0_0) ∧ w51.cell? ⟨gb114, 1, none⟩ = some (.int .i64 1) ∧ w51.cell? ⟨gb114, 2, none⟩ = some (.int .i64 a0_2) ∧ w51.cell? ⟨gb114, 3, none⟩ = some (.int .i64 a0_3) ∧ w51.cell? ⟨gb114, 4, none⟩ = some (.int .i64 a0_4) ∧ w51.cell? ⟨gb114, 5, none⟩ = some (.int .i64 a0_5) ∧ w51.cell? ⟨gb114, 6, none⟩ = some (.int .i64 a0_6) ∧ w51.cell? ⟨gb114, 7, none⟩ = some (.int .i64 a0_7) ∧ w51.cell? ⟨gb114, 8, none⟩ = some (.int .i64 a0_8) ∧ w51.cell? ⟨gb114, 9, none⟩ = some (.int .i64 a0_9) ∧ w51.cell? ⟨gb115, 0, none⟩ = some (.int .i64 a0_0) ∧ w51.cell? ⟨gb115, 1, none⟩ = some (.int .i64 1) ∧ w51.cell? ⟨gb115, 2, none⟩ = some (.int .i64 a0_2) ∧ w51.cell? ⟨gb115, 3, none⟩ = some (.int .i64 a0_3) ∧ w51.cell? ⟨gb115, 4, none⟩ = some (.int .i64 a0_4) ∧ w51.cell? ⟨gb115, 5, none⟩ = some (.int .i64 a0_5) ∧ w51.cell? ⟨gb115, 6, none⟩ = some (.int .i64 a0_6) ∧ w51.cell? ⟨gb115, 7, none⟩ = some (.int .i64 a0_7) ∧ w51.cell? ⟨gb115, 8, none⟩ = some (.int .i64 a0_8) ∧ w51.cell? ⟨gb115, 9, none⟩ = some (.int .i64 a0_9) := hS_
             refine norm_ (a' := ?_) ?_ ?_
             rotate_left
             ·
              simp only [putAll, Act.put, List.setIfInBounds_toArray, List.set_cons_zero, List.set_cons_succ]
              rfl
             refine one_ (i := 3) (N := some 19) #[Tt,Tt,Tt,Tt,Tt,Tt,Ff,Ff] rfl rfl (one_of HT_.out (by kernel_rfl)) (by decide) (fun K hK => ?_)
             refine goes_ Try.func10 (by kernel_rfl) rfl #[.int .i64 5, .agg #[.int .i64 a0_0, .int .i64 1, .int .i64 a0_2, .int .i64 a0_3, .int .i64 a0_4, .int .i64 a0_5, .int .i64 a0_6, .int .i64 a0_7, .int .i64 a0_8, .int .i64 a0_9]] (by rfl) rfl rfl (by (try simp only [List.map_toArray, List.map_cons, List.map_nil]); first | done | rfl | (simp only [List.length_drop, List.length_take]; rfl)) ?_
             with_reducible refine (count_Step.calls 5 a0_0 1 a0_2 a0_3 a0_4 a0_5 a0_6 a0_7 a0_8 a0_9 t126 t127 t128 t129 t130 t131 t132 t133 t134 t135 _ A3.out).mono ?_
             rintro e w52 ⟨rfl, hb⟩
             refine ⟨_, rfl, ?_⟩
             have n0_ := blkB_ hb BK113
             have n1_ := blkB_ hb BK114
             have n2_ := blkB_ hb BK115
             have n3_ := blkB_ hb BK136
             have n4_ := blkB_ hb BK137
             have n5_ := Aside0.mk (below_step (by repeat (first | (with_reducible first | exact HB.out | apply below_alloc | apply pw_below_drewN | apply below_drew1 | refine below_set ?_ GE113.out | refine below_set ?_ GE114.out | refine below_set ?_ GE115.out | refine below_set ?_ GE136.out | refine below_set ?_ GE137.out) | exact HB.out)) hb)
             clear BK113
             clear BK114
             clear BK115
             clear BK136
             clear BK137
             clear HB
             have BK113 := n0_
             have BK114 := n1_
             have BK115 := n2_
             have BK136 := n3_
             have BK137 := n4_
             have HB := n5_
             clear n0_ n1_ n2_ n3_ n4_ n5_
             (try clear hb)
             (try clear hb2)
             (try clear hk)
             (try clear hi)
             refine hK.out _ _ ⟨(blk_cell BK114.out 0).trans rfl, (blk_cell BK114.out 1).trans rfl, (blk_cell BK114.out 2).trans rfl, (blk_cell BK114.out 3).trans rfl, (blk_cell BK114.out 4).trans rfl, (blk_cell BK114.out 5).trans rfl, (blk_cell BK114.out 6).trans rfl, (blk_cell BK114.out 7).trans rfl, (blk_cell BK114.out 8).trans rfl, (blk_cell BK114.out 9).trans rfl, (blk_cell BK115.out 0).trans rfl, (blk_cell BK115.out 1).trans rfl, (blk_cell BK115.out 2).trans rfl, (blk_cell BK115.out 3).trans rfl, (blk_cell BK115.out 4).trans rfl, (blk_cell BK115.out 5).trans rfl, (blk_cell BK115.out 6).trans rfl, (blk_cell BK115.out 7).trans rfl, (blk_cell BK115.out 8).trans rfl, (blk_cell BK115.out 9).trans rfl⟩ (fun hHeld => ?_)
             clear hK K
             refine norm_ (a' := ?_) ?_ ?_
             rotate_left
             ·
              show Act.put _ (some 19) _ = _
              simp only [Act.put, List.setIfInBounds_toArray, List.set_cons_zero, List.set_cons_succ, i64_w, i32_w]
              rfl
             exact norm_ (by first | (simp only [putAll, Act.put, List.setIfInBounds_toArray, List.set_cons_zero, List.set_cons_succ]; done) | (simp only [putAll, Act.put, List.setIfInBounds_toArray, List.set_cons_zero, List.set_cons_succ]; rfl)) (hJ1_3_4_5 (gb136, gb137) _ ⟨hHeld, BK113.out, BK114.out, BK115.out, BK136.out, BK137.out, GW136.out, GE136.out, NB113_136.out, NB136_113.out, NB114_136.out, NB136_114.out, NB115_136.out, NB136_115.out, NB137_136.out, NB136_137.out, GW137.out, GE137.out, NB113_137.out, NB137_113.out, NB114_137.out, NB137_114.out, NB115_137.out, NB137_115.out, (by repeat (first | (with_reducible first | exact HB.out | apply below_alloc | apply pw_below_drewN | apply below_drew1 | refine below_set ?_ GE113.out | refine below_set ?_ GE114.out | refine below_set ?_ GE115.out | refine below_set ?_ GE136.out | refine below_set ?_ GE137.out) | exact HB.out))⟩)
           ·
            skip
            rintro gb137 w51 ⟨hS_, h0_, h1_, h2_, h3_, h4_, h5_, h6_, h7_, h8_, h9_, h10_, h11_, h12_⟩
            have n0_ : Aside0 (w51.heap[gb113]? = some (.cells #[.int .i64 a0_0, .int .i64 a0_1, .int .i64 a0_2, .int .i64 a0_3, .int .i64 a0_4, .int .i64 a0_5, .int .i64 a0_6, .int .i64 a0_7, .int .i64 a0_8, .int .i64 a0_9] 26 (0, 0))) := ⟨h0_⟩
            have n1_ : Aside0 (w51.heap[gb114]? = some (.cells #[.int .i64 a0_0, .int .i64 1, .int .i64 a0_2, .int .i64 a0_3, .int .i64 a0_4, .int .i64 a0_5, .int .i64 a0_6, .int .i64 a0_7, .int .i64 a0_8, .int .i64 a0_9] 26 (0, 0))) := ⟨h1_⟩
            have n2_ : Aside0 (w51.heap[gb115]? = some (.cells #[.int .i64 a0_0, .int .i64 1, .int .i64 a0_2, .int .i64 a0_3, .int .i64 a0_4, .int .i64 a0_5, .int .i64 a0_6, .int .i64 a0_7, .int .i64 a0_8, .int .i64 a0_9] 26 (0, 0))) := ⟨h2_⟩
            have n3_ : Aside0 (w51.heap[gb137]? = some (.cells #[.int .i64 0, .int .i64 0, .int .i64 0, .int .i64 0, .int .i64 0, .int .i64 0, .int .i64 0, .int .i64 0, .int .i64 0, .int .i64 0] 26 (0, 0))) := ⟨h3_⟩
            have n4_ : Aside0 (w.heap.size ≤ gb137) := ⟨h4_⟩
            have n5_ : Aside0 (w.heap.size ≤ gb137) := ⟨h5_⟩
            have n6_ : Aside0 (gb113 ≠ gb137) := ⟨h6_⟩
            have n7_ : Aside0 (gb137 ≠ gb113) := ⟨h7_⟩
            have n8_ : Aside0 (gb114 ≠ gb137) := ⟨h8_⟩
            have n9_ : Aside0 (gb137 ≠ gb114) := ⟨h9_⟩
            have n10_ : Aside0 (gb115 ≠ gb137) := ⟨h10_⟩
            have n11_ : Aside0 (gb137 ≠ gb115) := ⟨h11_⟩
            have n12_ : Aside0 (Below w.heap.size w w51) := ⟨h12_⟩
            clear BK113
            clear BK114
            clear BK115
            clear HB
            clear h0_ h1_ h2_ h3_ h4_ h5_ h6_ h7_ h8_ h9_ h10_ h11_ h12_
            have BK113 := n0_
            have BK114 := n1_
            have BK115 := n2_
            have BK137 := n3_
            have GW137 := n4_
            have GE137 := n5_
            have NB113_137 := n6_
            have NB137_113 := n7_
            have NB114_137 := n8_
            have NB137_114 := n9_
            have NB115_137 := n10_
            have NB137_115 := n11_
            have HB := n12_
            clear n0_ n1_ n2_ n3_ n4_ n5_ n6_ n7_ n8_ n9_ n10_ n11_ n12_
            have hHeld : w51.cell? ⟨gb114, 0, none⟩ = some (.int .i64 a0_0) ∧ w51.cell? ⟨gb114, 1, none⟩ = some (.int .i64 1) ∧ w51.cell? ⟨gb114, 2, none⟩ = some (.int .i64 a0_2) ∧ w51.cell? ⟨gb114, 3, none⟩ = some (.int .i64 a0_3) ∧ w51.cell? ⟨gb114, 4, none⟩ = some (.int .i64 a0_4) ∧ w51.cell? ⟨gb114, 5, none⟩ = some (.int .i64 a0_5) ∧ w51.cell? ⟨gb114, 6, none⟩ = some (.int .i64 a0_6) ∧ w51.cell? ⟨gb114, 7, none⟩ = some (.int .i64 a0_7) ∧ w51.cell? ⟨gb114, 8, none⟩ = some (.int .i64 a0_8) ∧ w51.cell? ⟨gb114, 9, none⟩ = some (.int .i64 a0_9) ∧ w51.cell? ⟨gb115, 0, none⟩ = some (.int .i64 a0_0) ∧ w51.cell? ⟨gb115, 1, none⟩ = some (.int .i64 1) ∧ w51.cell? ⟨gb115, 2, none⟩ = some (.int .i64 a0_2) ∧ w51.cell? ⟨gb115, 3, none⟩ = some (.int .i64 a0_3) ∧ w51.cell? ⟨gb115, 4, none⟩ = some (.int .i64 a0_4) ∧ w51.cell? ⟨gb115, 5, none⟩ = some (.int .i64 a0_5) ∧ w51.cell? ⟨gb115, 6, none⟩ = some (.int .i64 a0_6) ∧ w51.cell? ⟨gb115, 7, none⟩ = some (.int .i64 a0_7) ∧ w51.cell? ⟨gb115, 8, none⟩ = some (.int .i64 a0_8) ∧ w51.cell? ⟨gb115, 9, none⟩ = some (.int .i64 a0_9) := hS_
            refine norm_ (a' := ?_) ?_ ?_
            rotate_left
            ·
             simp only [putAll, Act.put, List.setIfInBounds_toArray, List.set_cons_zero, List.set_cons_succ]
             rfl
            refine one_ (i := 4) (N := some 5) #[Tt,Tt,Tt,Tt,Tt,Tt,Ff,Ff] rfl rfl (one_of HT_.out (by kernel_rfl)) (by decide) (fun K hK => ?_)
            refine box_step ?hg (N := 5) ?hd (cs := #[.int .i64 0, .int .i64 0, .int .i64 0, .int .i64 0, .int .i64 0, .int .i64 0, .int .i64 0, .int .i64 0, .int .i64 0, .int .i64 0]) (t := 26) ?hr ?_; (case hd => rfl); (case hg => rfl); (case hr => first | (go_simp; done) | (go_simp; rfl))
            intro gb136 hg w52 hbox hb
            have n0_ := blkB_ hb BK113
            have n1_ := blkB_ hb BK114
            have n2_ := blkB_ hb BK115
            have n3_ := blkB_ hb BK137
            have n4_ := Aside0.mk (below_step (by repeat (first | (with_reducible first | exact HB.out | apply below_alloc | apply pw_below_drewN | apply below_drew1 | refine below_set ?_ GE113.out | refine below_set ?_ GE114.out | refine below_set ?_ GE115.out | refine below_set ?_ GE137.out) | exact HB.out)) hb)
            have n5_ := Aside0.mk (hbox)
            have n6_ := Aside0.mk ((by rw [hg]; exact (below_size (by repeat (first | (with_reducible first | exact HB.out | apply below_alloc | apply pw_below_drewN | apply below_drew1 | refine below_set ?_ GE113.out | refine below_set ?_ GE114.out | refine below_set ?_ GE115.out | refine below_set ?_ GE137.out) | exact HB.out))) : w.heap.size ≤ gb136))
            have n7_ := Aside0.mk ((by rw [hg]; exact (below_size (by repeat (first | (with_reducible first | exact HB.out | apply below_alloc | apply pw_below_drewN | apply below_drew1 | refine below_set ?_ GE113.out | refine below_set ?_ GE114.out | refine below_set ?_ GE115.out | refine below_set ?_ GE137.out) | exact HB.out))) : w.heap.size ≤ gb136))
            have n8_ := neL_ hg BK113
            have n9_ := neG_ hg BK113
            have n10_ := neL_ hg BK114
            have n11_ := neG_ hg BK114
            have n12_ := neL_ hg BK115
            have n13_ := neG_ hg BK115
            have n14_ := neL_ hg BK137
            have n15_ := neG_ hg BK137
            clear BK113
            clear BK114
            clear BK115
            clear BK137
            clear HB
            have BK113 := n0_
            have BK114 := n1_
            have BK115 := n2_
            have BK137 := n3_
            have HB := n4_
            have BK136 := n5_
            have GW136 := n6_
            have GE136 := n7_
            have NB113_136 := n8_
            have NB136_113 := n9_
            have NB114_136 := n10_
            have NB136_114 := n11_
            have NB115_136 := n12_
            have NB136_115 := n13_
            have NB137_136 := n14_
            have NB136_137 := n15_
            clear n0_ n1_ n2_ n3_ n4_ n5_ n6_ n7_ n8_ n9_ n10_ n11_ n12_ n13_ n14_ n15_
            clear hb hbox hg
            refine hK.out _ _ ⟨(blk_cell BK114.out 0).trans rfl, (blk_cell BK114.out 1).trans rfl, (blk_cell BK114.out 2).trans rfl, (blk_cell BK114.out 3).trans rfl, (blk_cell BK114.out 4).trans rfl, (blk_cell BK114.out 5).trans rfl, (blk_cell BK114.out 6).trans rfl, (blk_cell BK114.out 7).trans rfl, (blk_cell BK114.out 8).trans rfl, (blk_cell BK114.out 9).trans rfl, (blk_cell BK115.out 0).trans rfl, (blk_cell BK115.out 1).trans rfl, (blk_cell BK115.out 2).trans rfl, (blk_cell BK115.out 3).trans rfl, (blk_cell BK115.out 4).trans rfl, (blk_cell BK115.out 5).trans rfl, (blk_cell BK115.out 6).trans rfl, (blk_cell BK115.out 7).trans rfl, (blk_cell BK115.out 8).trans rfl, (blk_cell BK115.out 9).trans rfl⟩ (fun hHeld => ?_)
            clear hK K
            refine norm_ (a' := ?_) ?_ ?_
            rotate_left
            ·
             show Act.put _ (some 5) _ = _
             simp only [Act.put, List.setIfInBounds_toArray, List.set_cons_zero, List.set_cons_succ, i64_w, i32_w]
             rfl
            exact norm_ (by first | (simp only [putAll, Act.put, List.setIfInBounds_toArray, List.set_cons_zero, List.set_cons_succ]; done) | (simp only [putAll, Act.put, List.setIfInBounds_toArray, List.set_cons_zero, List.set_cons_succ]; rfl)) (hJ1_3_4_5 (gb136, gb137) _ ⟨hHeld, BK113.out, BK114.out, BK115.out, BK136.out, BK137.out, GW136.out, GE136.out, NB113_136.out, NB136_113.out, NB114_136.out, NB136_114.out, NB115_136.out, NB136_115.out, NB137_136.out, NB136_137.out, GW137.out, GE137.out, NB113_137.out, NB137_113.out, NB114_137.out, NB137_114.out, NB115_137.out, NB137_115.out, (by repeat (first | (with_reducible first | exact HB.out | apply below_alloc | apply pw_below_drewN | apply below_drew1 | refine below_set ?_ GE113.out | refine below_set ?_ GE114.out | refine below_set ?_ GE115.out | refine below_set ?_ GE137.out | refine below_set ?_ GE136.out) | exact HB.out))⟩)
          ·
           skip
           rintro gb136 w51 ⟨hS_, h0_, h1_, h2_, h3_, h4_, h5_, h6_, h7_, h8_, h9_, h10_, h11_, h12_⟩
           have n0_ : Aside0 (w51.heap[gb113]? = some (.cells #[.int .i64 a0_0, .int .i64 a0_1, .int .i64 a0_2, .int .i64 a0_3, .int .i64 a0_4, .int .i64 a0_5, .int .i64 a0_6, .int .i64 a0_7, .int .i64 a0_8, .int .i64 a0_9] 26 (0, 0))) := ⟨h0_⟩
           have n1_ : Aside0 (w51.heap[gb114]? = some (.cells #[.int .i64 a0_0, .int .i64 1, .int .i64 a0_2, .int .i64 a0_3, .int .i64 a0_4, .int .i64 a0_5, .int .i64 a0_6, .int .i64 a0_7, .int .i64 a0_8, .int .i64 a0_9] 26 (0, 0))) := ⟨h1_⟩
           have n2_ : Aside0 (w51.heap[gb115]? = some (.cells #[.int .i64 a0_0, .int .i64 1, .int .i64 a0_2, .int .i64 a0_3, .int .i64 a0_4, .int .i64 a0_5, .int .i64 a0_6, .int .i64 a0_7, .int .i64 a0_8, .int .i64 a0_9] 26 (0, 0))) := ⟨h2_⟩
           have n3_ : Aside0 (w51.heap[gb136]? = some (.cells #[.int .i64 0, .int .i64 0, .int .i64 0, .int .i64 0, .int .i64 0, .int .i64 0, .int .i64 0, .int .i64 0, .int .i64 0, .int .i64 0] 26 (0, 0))) := ⟨h3_⟩
           have n4_ : Aside0 (w.heap.size ≤ gb136) := ⟨h4_⟩
           have n5_ : Aside0 (w.heap.size ≤ gb136) := ⟨h5_⟩
           have n6_ : Aside0 (gb113 ≠ gb136) := ⟨h6_⟩
           have n7_ : Aside0 (gb136 ≠ gb113) := ⟨h7_⟩
           have n8_ : Aside0 (gb114 ≠ gb136) := ⟨h8_⟩
           have n9_ : Aside0 (gb136 ≠ gb114) := ⟨h9_⟩
           have n10_ : Aside0 (gb115 ≠ gb136) := ⟨h10_⟩
           have n11_ : Aside0 (gb136 ≠ gb115) := ⟨h11_⟩
           have n12_ : Aside0 (Below w.heap.size w w51) := ⟨h12_⟩
           clear BK113
           clear BK114
           clear BK115
           clear HB
           clear h0_ h1_ h2_ h3_ h4_ h5_ h6_ h7_ h8_ h9_ h10_ h11_ h12_
           have BK113 := n0_
           have BK114 := n1_
           have BK115 := n2_
           have BK136 := n3_
           have GW136 := n4_
           have GE136 := n5_
           have NB113_136 := n6_
           have NB136_113 := n7_
           have NB114_136 := n8_
           have NB136_114 := n9_
           have NB115_136 := n10_
           have NB136_115 := n11_
           have HB := n12_
           clear n0_ n1_ n2_ n3_ n4_ n5_ n6_ n7_ n8_ n9_ n10_ n11_ n12_
           have hHeld : w51.cell? ⟨gb114, 0, none⟩ = some (.int .i64 a0_0) ∧ w51.cell? ⟨gb114, 1, none⟩ = some (.int .i64 1) ∧ w51.cell? ⟨gb114, 2, none⟩ = some (.int .i64 a0_2) ∧ w51.cell? ⟨gb114, 3, none⟩ = some (.int .i64 a0_3) ∧ w51.cell? ⟨gb114, 4, none⟩ = some (.int .i64 a0_4) ∧ w51.cell? ⟨gb114, 5, none⟩ = some (.int .i64 a0_5) ∧ w51.cell? ⟨gb114, 6, none⟩ = some (.int .i64 a0_6) ∧ w51.cell? ⟨gb114, 7, none⟩ = some (.int .i64 a0_7) ∧ w51.cell? ⟨gb114, 8, none⟩ = some (.int .i64 a0_8) ∧ w51.cell? ⟨gb114, 9, none⟩ = some (.int .i64 a0_9) ∧ w51.cell? ⟨gb115, 0, none⟩ = some (.int .i64 a0_0) ∧ w51.cell? ⟨gb115, 1, none⟩ = some (.int .i64 1) ∧ w51.cell? ⟨gb115, 2, none⟩ = some (.int .i64 a0_2) ∧ w51.cell? ⟨gb115, 3, none⟩ = some (.int .i64 a0_3) ∧ w51.cell? ⟨gb115, 4, none⟩ = some (.int .i64 a0_4) ∧ w51.cell? ⟨gb115, 5, none⟩ = some (.int .i64 a0_5) ∧ w51.cell? ⟨gb115, 6, none⟩ = some (.int .i64 a0_6) ∧ w51.cell? ⟨gb115, 7, none⟩ = some (.int .i64 a0_7) ∧ w51.cell? ⟨gb115, 8, none⟩ = some (.int .i64 a0_8) ∧ w51.cell? ⟨gb115, 9, none⟩ = some (.int .i64 a0_9) := hS_
           refine norm_ (a' := ?_) ?_ ?_
           rotate_left
           ·
            simp only [putAll, Act.put, List.setIfInBounds_toArray, List.set_cons_zero, List.set_cons_succ]
            rfl
           refine one_ (i := 5) (N := some 6) #[Tt,Tt,Tt,Tt,Tt,Tt,Ff,Ff] rfl rfl (one_of HT_.out (by kernel_rfl)) (by decide) (fun K hK => ?_)
           refine box_step ?hg (N := 6) ?hd (cs := #[.int .i64 0, .int .i64 0, .int .i64 0, .int .i64 0, .int .i64 0, .int .i64 0, .int .i64 0, .int .i64 0, .int .i64 0, .int .i64 0]) (t := 26) ?hr ?_; (case hd => rfl); (case hg => rfl); (case hr => first | (go_simp; done) | (go_simp; rfl))
           intro gb137 hg w52 hbox hb
           have n0_ := blkB_ hb BK113
           have n1_ := blkB_ hb BK114
           have n2_ := blkB_ hb BK115
           have n3_ := blkB_ hb BK136
           have n4_ := Aside0.mk (below_step (by repeat (first | (with_reducible first | exact HB.out | apply below_alloc | apply pw_below_drewN | apply below_drew1 | refine below_set ?_ GE113.out | refine below_set ?_ GE114.out | refine below_set ?_ GE115.out | refine below_set ?_ GE136.out) | exact HB.out)) hb)
           have n5_ := Aside0.mk (hbox)
           have n6_ := Aside0.mk ((by rw [hg]; exact (below_size (by repeat (first | (with_reducible first | exact HB.out | apply below_alloc | apply pw_below_drewN | apply below_drew1 | refine below_set ?_ GE113.out | refine below_set ?_ GE114.out | refine below_set ?_ GE115.out | refine below_set ?_ GE136.out) | exact HB.out))) : w.heap.size ≤ gb137))
           have n7_ := Aside0.mk ((by rw [hg]; exact (below_size (by repeat (first | (with_reducible first | exact HB.out | apply below_alloc | apply pw_below_drewN | apply below_drew1 | refine below_set ?_ GE113.out | refine below_set ?_ GE114.out | refine below_set ?_ GE115.out | refine below_set ?_ GE136.out) | exact HB.out))) : w.heap.size ≤ gb137))
           have n8_ := neL_ hg BK113
           have n9_ := neG_ hg BK113
           have n10_ := neL_ hg BK114
           have n11_ := neG_ hg BK114
           have n12_ := neL_ hg BK115
           have n13_ := neG_ hg BK115
           have n14_ := neL_ hg BK136
           have n15_ := neG_ hg BK136
           clear BK113
           clear BK114
           clear BK115
           clear BK136
           clear HB
           have BK113 := n0_
           have BK114 := n1_
           have BK115 := n2_
           have BK136 := n3_
           have HB := n4_
           have BK137 := n5_
           have GW137 := n6_
           have GE137 := n7_
           have NB113_137 := n8_
           have NB137_113 := n9_
           have NB114_137 := n10_
           have NB137_114 := n11_
           have NB115_137 := n12_
           have NB137_115 := n13_
           have NB136_137 := n14_
           have NB137_136 := n15_
           clear n0_ n1_ n2_ n3_ n4_ n5_ n6_ n7_ n8_ n9_ n10_ n11_ n12_ n13_ n14_ n15_
           clear hb hbox hg
           refine hK.out _ _ ⟨(blk_cell BK114.out 0).trans rfl, (blk_cell BK114.out 1).trans rfl, (blk_cell BK114.out 2).trans rfl, (blk_cell BK114.out 3).trans rfl, (blk_cell BK114.out 4).trans rfl, (blk_cell BK114.out 5).trans rfl, (blk_cell BK114.out 6).trans rfl, (blk_cell BK114.out 7).trans rfl, (blk_cell BK114.out 8).trans rfl, (blk_cell BK114.out 9).trans rfl, (blk_cell BK115.out 0).trans rfl, (blk_cell BK115.out 1).trans rfl, (blk_cell BK115.out 2).trans rfl, (blk_cell BK115.out 3).trans rfl, (blk_cell BK115.out 4).trans rfl, (blk_cell BK115.out 5).trans rfl, (blk_cell BK115.out 6).trans rfl, (blk_cell BK115.out 7).trans rfl, (blk_cell BK115.out 8).trans rfl, (blk_cell BK115.out 9).trans rfl⟩ (fun hHeld => ?_)
           clear hK K
           refine norm_ (a' := ?_) ?_ ?_
           rotate_left
           ·
            show Act.put _ (some 6) _ = _
            simp only [Act.put, List.setIfInBounds_toArray, List.set_cons_zero, List.set_cons_succ, i64_w, i32_w]
            rfl
           exact norm_ (by first | (simp only [putAll, Act.put, List.setIfInBounds_toArray, List.set_cons_zero, List.set_cons_succ]; done) | (simp only [putAll, Act.put, List.setIfInBounds_toArray, List.set_cons_zero, List.set_cons_succ]; rfl)) (hJ1_3_4_5 (gb136, gb137) _ ⟨hHeld, BK113.out, BK114.out, BK115.out, BK136.out, BK137.out, GW136.out, GE136.out, NB113_136.out, NB136_113.out, NB114_136.out, NB136_114.out, NB115_136.out, NB136_115.out, NB137_136.out, NB136_137.out, GW137.out, GE137.out, NB113_137.out, NB137_113.out, NB114_137.out, NB137_114.out, NB115_137.out, NB137_115.out, (by repeat (first | (with_reducible first | exact HB.out | apply below_alloc | apply pw_below_drewN | apply below_drew1 | refine below_set ?_ GE113.out | refine below_set ?_ GE114.out | refine below_set ?_ GE115.out | refine below_set ?_ GE136.out | refine below_set ?_ GE137.out) | exact HB.out))⟩)
         rintro ⟨gb136, gb137⟩ w52 ⟨hS_, h0_, h1_, h2_, h3_, h4_, h5_, h6_, h7_, h8_, h9_, h10_, h11_, h12_, h13_, h14_, h15_, h16_, h17_, h18_, h19_, h20_, h21_, h22_, h23_⟩
         have n0_ : Aside0 (w52.heap[gb113]? = some (.cells #[.int .i64 a0_0, .int .i64 a0_1, .int .i64 a0_2, .int .i64 a0_3, .int .i64 a0_4, .int .i64 a0_5, .int .i64 a0_6, .int .i64 a0_7, .int .i64 a0_8, .int .i64 a0_9] 26 (0, 0))) := ⟨h0_⟩
         have n1_ : Aside0 (w52.heap[gb114]? = some (.cells #[.int .i64 a0_0, .int .i64 1, .int .i64 a0_2, .int .i64 a0_3, .int .i64 a0_4, .int .i64 a0_5, .int .i64 a0_6, .int .i64 a0_7, .int .i64 a0_8, .int .i64 a0_9] 26 (0, 0))) := ⟨h1_⟩
         have n2_ : Aside0 (w52.heap[gb115]? = some (.cells #[.int .i64 a0_0, .int .i64 1, .int .i64 a0_2, .int .i64 a0_3, .int .i64 a0_4, .int .i64 a0_5, .int .i64 a0_6, .int .i64 a0_7, .int .i64 a0_8, .int .i64 a0_9] 26 (0, 0))) := ⟨h2_⟩
         have n3_ : Aside0 (w52.heap[gb136]? = some (.cells #[.int .i64 0, .int .i64 0, .int .i64 0, .int .i64 0, .int .i64 0, .int .i64 0, .int .i64 0, .int .i64 0, .int .i64 0, .int .i64 0] 26 (0, 0))) := ⟨h3_⟩
         have n4_ : Aside0 (w52.heap[gb137]? = some (.cells #[.int .i64 0, .int .i64 0, .int .i64 0, .int .i64 0, .int .i64 0, .int .i64 0, .int .i64 0, .int .i64 0, .int .i64 0, .int .i64 0] 26 (0, 0))) := ⟨h4_⟩
         have n5_ : Aside0 (w.heap.size ≤ gb136) := ⟨h5_⟩
         have n6_ : Aside0 (w.heap.size ≤ gb136) := ⟨h6_⟩
         have n7_ : Aside0 (gb113 ≠ gb136) := ⟨h7_⟩
         have n8_ : Aside0 (gb136 ≠ gb113) := ⟨h8_⟩
         have n9_ : Aside0 (gb114 ≠ gb136) := ⟨h9_⟩
         have n10_ : Aside0 (gb136 ≠ gb114) := ⟨h10_⟩
         have n11_ : Aside0 (gb115 ≠ gb136) := ⟨h11_⟩
         have n12_ : Aside0 (gb136 ≠ gb115) := ⟨h12_⟩
         have n13_ : Aside0 (gb137 ≠ gb136) := ⟨h13_⟩
         have n14_ : Aside0 (gb136 ≠ gb137) := ⟨h14_⟩
         have n15_ : Aside0 (w.heap.size ≤ gb137) := ⟨h15_⟩
         have n16_ : Aside0 (w.heap.size ≤ gb137) := ⟨h16_⟩
         have n17_ : Aside0 (gb113 ≠ gb137) := ⟨h17_⟩
         have n18_ : Aside0 (gb137 ≠ gb113) := ⟨h18_⟩
         have n19_ : Aside0 (gb114 ≠ gb137) := ⟨h19_⟩
         have n20_ : Aside0 (gb137 ≠ gb114) := ⟨h20_⟩
         have n21_ : Aside0 (gb115 ≠ gb137) := ⟨h21_⟩
         have n22_ : Aside0 (gb137 ≠ gb115) := ⟨h22_⟩
         have n23_ : Aside0 (Below w.heap.size w w52) := ⟨h23_⟩
         clear BK113
         clear BK114
         clear BK115
         clear HB
         clear h0_ h1_ h2_ h3_ h4_ h5_ h6_ h7_ h8_ h9_ h10_ h11_ h12_ h13_ h14_ h15_ h16_ h17_ h18_ h19_ h20_ h21_ h22_ h23_
         have BK113 := n0_
         have BK114 := n1_
         have BK115 := n2_
         have BK136 := n3_
         have BK137 := n4_
         have GW136 := n5_
         have GE136 := n6_
         have NB113_136 := n7_
         have NB136_113 := n8_
         have NB114_136 := n9_
         have NB136_114 := n10_
         have NB115_136 := n11_
         have NB136_115 := n12_
         have NB137_136 := n13_
         have NB136_137 := n14_
         have GW137 := n15_
         have GE137 := n16_
         have NB113_137 := n17_
         have NB137_113 := n18_
         have NB114_137 := n19_
         have NB137_114 := n20_
         have NB115_137 := n21_
         have NB137_115 := n22_
         have HB := n23_
         clear n0_ n1_ n2_ n3_ n4_ n5_ n6_ n7_ n8_ n9_ n10_ n11_ n12_ n13_ n14_ n15_ n16_ n17_ n18_ n19_ n20_ n21_ n22_ n23_
         have hHeld : w52.cell? ⟨gb114, 0, none⟩ = some (.int .i64 a0_0) ∧ w52.cell? ⟨gb114, 1, none⟩ = some (.int .i64 1) ∧ w52.cell? ⟨gb114, 2, none⟩ = some (.int .i64 a0_2) ∧ w52.cell? ⟨gb114, 3, none⟩ = some (.int .i64 a0_3) ∧ w52.cell? ⟨gb114, 4, none⟩ = some (.int .i64 a0_4) ∧ w52.cell? ⟨gb114, 5, none⟩ = some (.int .i64 a0_5) ∧ w52.cell? ⟨gb114, 6, none⟩ = some (.int .i64 a0_6) ∧ w52.cell? ⟨gb114, 7, none⟩ = some (.int .i64 a0_7) ∧ w52.cell? ⟨gb114, 8, none⟩ = some (.int .i64 a0_8) ∧ w52.cell? ⟨gb114, 9, none⟩ = some (.int .i64 a0_9) ∧ w52.cell? ⟨gb115, 0, none⟩ = some (.int .i64 a0_0) ∧ w52.cell? ⟨gb115, 1, none⟩ = some (.int .i64 1) ∧ w52.cell? ⟨gb115, 2, none⟩ = some (.int .i64 a0_2) ∧ w52.cell? ⟨gb115, 3, none⟩ = some (.int .i64 a0_3) ∧ w52.cell? ⟨gb115, 4, none⟩ = some (.int .i64 a0_4) ∧ w52.cell? ⟨gb115, 5, none⟩ = some (.int .i64 a0_5) ∧ w52.cell? ⟨gb115, 6, none⟩ = some (.int .i64 a0_6) ∧ w52.cell? ⟨gb115, 7, none⟩ = some (.int .i64 a0_7) ∧ w52.cell? ⟨gb115, 8, none⟩ = some (.int .i64 a0_8) ∧ w52.cell? ⟨gb115, 9, none⟩ = some (.int .i64 a0_9) := hS_
         refine norm_ (a' := ?_) ?_ ?_
         rotate_left
         ·
          simp only [putAll, Act.put, List.setIfInBounds_toArray, List.set_cons_zero, List.set_cons_succ]
          rfl
         refine one_ (i := 6) (N := none) #[Tt,Tt,Tt,Tt,Tt,Tt,Tt,Ff] rfl rfl (one_of HT_.out (by kernel_rfl)) (by decide) (fun K hK => ?_)
         have hs53 : w52.cell? ⟨gb136, 0, none⟩ = some (.int .i64 0) := (blk_cell BK136.out 0).trans rfl
         have hfs53 := blk_frozen BK136.out 0
         have hns53_0 := NB113_136.out
         have hns53_1 := NB114_136.out
         have hns53_2 := NB115_136.out
         have hns53_4 := NB137_136.out
         have hms53_0 := NB136_113.out
         have hms53_1 := NB136_114.out
         have hms53_2 := NB136_115.out
         have hms53_4 := NB136_137.out
         have hs54 : w52.cell? ⟨gb136, 1, none⟩ = some (.int .i64 0) := (blk_cell BK136.out 1).trans rfl
         have hfs54 := blk_frozen BK136.out 1
         have hns54_0 := NB113_136.out
         have hns54_1 := NB114_136.out
         have hns54_2 := NB115_136.out
         have hns54_4 := NB137_136.out
         have hms54_0 := NB136_113.out
         have hms54_1 := NB136_114.out
         have hms54_2 := NB136_115.out
         have hms54_4 := NB136_137.out
         have hs55 : w52.cell? ⟨gb136, 2, none⟩ = some (.int .i64 0) := (blk_cell BK136.out 2).trans rfl
         have hfs55 := blk_frozen BK136.out 2
         have hns55_0 := NB113_136.out
         have hns55_1 := NB114_136.out
         have hns55_2 := NB115_136.out
         have hns55_4 := NB137_136.out
         have hms55_0 := NB136_113.out
         have hms55_1 := NB136_114.out
         have hms55_2 := NB136_115.out
         have hms55_4 := NB136_137.out
         have hs56 : w52.cell? ⟨gb136, 3, none⟩ = some (.int .i64 0) := (blk_cell BK136.out 3).trans rfl
         have hfs56 := blk_frozen BK136.out 3
         have hns56_0 := NB113_136.out
         have hns56_1 := NB114_136.out
         have hns56_2 := NB115_136.out
         have hns56_4 := NB137_136.out
         have hms56_0 := NB136_113.out
         have hms56_1 := NB136_114.out
         have hms56_2 := NB136_115.out
         have hms56_4 := NB136_137.out
         have hs57 : w52.cell? ⟨gb136, 4, none⟩ = some (.int .i64 0) := (blk_cell BK136.out 4).trans rfl
         have hfs57 := blk_frozen BK136.out 4
         have hns57_0 := NB113_136.out
         have hns57_1 := NB114_136.out
         have hns57_2 := NB115_136.out
         have hns57_4 := NB137_136.out
         have hms57_0 := NB136_113.out
         have hms57_1 := NB136_114.out
         have hms57_2 := NB136_115.out
         have hms57_4 := NB136_137.out
         have hs58 : w52.cell? ⟨gb136, 5, none⟩ = some (.int .i64 0) := (blk_cell BK136.out 5).trans rfl
         have hfs58 := blk_frozen BK136.out 5
         have hns58_0 := NB113_136.out
         have hns58_1 := NB114_136.out
         have hns58_2 := NB115_136.out
         have hns58_4 := NB137_136.out
         have hms58_0 := NB136_113.out
         have hms58_1 := NB136_114.out
         have hms58_2 := NB136_115.out
         have hms58_4 := NB136_137.out
         have hs59 : w52.cell? ⟨gb136, 6, none⟩ = some (.int .i64 0) := (blk_cell BK136.out 6).trans rfl
         have hfs59 := blk_frozen BK136.out 6
         have hns59_0 := NB113_136.out
         have hns59_1 := NB114_136.out
         have hns59_2 := NB115_136.out
         have hns59_4 := NB137_136.out
         have hms59_0 := NB136_113.out
         have hms59_1 := NB136_114.out
         have hms59_2 := NB136_115.out
         have hms59_4 := NB136_137.out
         have hs60 : w52.cell? ⟨gb136, 7, none⟩ = some (.int .i64 0) := (blk_cell BK136.out 7).trans rfl
         have hfs60 := blk_frozen BK136.out 7
         have hns60_0 := NB113_136.out
         have hns60_1 := NB114_136.out
         have hns60_2 := NB115_136.out
         have hns60_4 := NB137_136.out
         have hms60_0 := NB136_113.out
         have hms60_1 := NB136_114.out
         have hms60_2 := NB136_115.out
         have hms60_4 := NB136_137.out
         have hs61 : w52.cell? ⟨gb136, 8, none⟩ = some (.int .i64 0) := (blk_cell BK136.out 8).trans rfl
         have hfs61 := blk_frozen BK136.out 8
         have hns61_0 := NB113_136.out
         have hns61_1 := NB114_136.out
         have hns61_2 := NB115_136.out
         have hns61_4 := NB137_136.out
         have hms61_0 := NB136_113.out
         have hms61_1 := NB136_114.out
         have hms61_2 := NB136_115.out
         have hms61_4 := NB136_137.out
         have hs62 : w52.cell? ⟨gb136, 9, none⟩ = some (.int .i64 0) := (blk_cell BK136.out 9).trans rfl
         have hfs62 := blk_frozen BK136.out 9
         have hns62_0 := NB113_136.out
         have hns62_1 := NB114_136.out
         have hns62_2 := NB115_136.out
         have hns62_4 := NB137_136.out
         have hms62_0 := NB136_113.out
         have hms62_1 := NB136_114.out
         have hms62_2 := NB136_115.out
         have hms62_4 := NB136_137.out
         with_reducible refine skip_ (w1 := ?_) ?_ ?_ ?_ ?_
         rotate_left
         · rfl
         · rfl
         ·
          first | (exact store10_ rfl rfl rfl (by repeat' (first | (with_reducible exact Aside0.out (by assumption)) | refine blk_far ?_ (Aside0.out (by assumption)) _))) | (go_simp; rfl)
         refine hK.out _ _ ⟨((far10_ NB114_136.out).trans (hHeld.1)), ((far10_ NB114_136.out).trans (hHeld.2.1)), ((far10_ NB114_136.out).trans (hHeld.2.2.1)), ((far10_ NB114_136.out).trans (hHeld.2.2.2.1)), ((far10_ NB114_136.out).trans (hHeld.2.2.2.2.1)), ((far10_ NB114_136.out).trans (hHeld.2.2.2.2.2.1)), ((far10_ NB114_136.out).trans (hHeld.2.2.2.2.2.2.1)), ((far10_ NB114_136.out).trans (hHeld.2.2.2.2.2.2.2.1)), ((far10_ NB114_136.out).trans (hHeld.2.2.2.2.2.2.2.2.1)), ((far10_ NB114_136.out).trans (hHeld.2.2.2.2.2.2.2.2.2.1)), ((far10_ NB115_136.out).trans (hHeld.2.2.2.2.2.2.2.2.2.2.1)), ((far10_ NB115_136.out).trans (hHeld.2.2.2.2.2.2.2.2.2.2.2.1)), ((far10_ NB115_136.out).trans (hHeld.2.2.2.2.2.2.2.2.2.2.2.2.1)), ((far10_ NB115_136.out).trans (hHeld.2.2.2.2.2.2.2.2.2.2.2.2.2.1)), ((far10_ NB115_136.out).trans (hHeld.2.2.2.2.2.2.2.2.2.2.2.2.2.2.1)), ((far10_ NB115_136.out).trans (hHeld.2.2.2.2.2.2.2.2.2.2.2.2.2.2.2.1)), ((far10_ NB115_136.out).trans (hHeld.2.2.2.2.2.2.2.2.2.2.2.2.2.2.2.2.1)), ((far10_ NB115_136.out).trans (hHeld.2.2.2.2.2.2.2.2.2.2.2.2.2.2.2.2.2.1)), ((far10_ NB115_136.out).trans (hHeld.2.2.2.2.2.2.2.2.2.2.2.2.2.2.2.2.2.2.1)), ((far10_ NB115_136.out).trans (hHeld.2.2.2.2.2.2.2.2.2.2.2.2.2.2.2.2.2.2.2))⟩ (fun hHeld => ?_)
         clear hK K
         clear hs53 hfs53 hns53_0 hns53_1 hns53_2 hns53_4 hms53_0 hms53_1 hms53_2 hms53_4 hs54 hfs54 hns54_0 hns54_1 hns54_2 hns54_4 hms54_0 hms54_1 hms54_2 hms54_4 hs55 hfs55 hns55_0 hns55_1 hns55_2 hns55_4 hms55_0 hms55_1 hms55_2 hms55_4 hs56 hfs56 hns56_0 hns56_1 hns56_2 hns56_4 hms56_0 hms56_1 hms56_2 hms56_4 hs57 hfs57 hns57_0 hns57_1 hns57_2 hns57_4 hms57_0 hms57_1 hms57_2 hms57_4 hs58 hfs58 hns58_0 hns58_1 hns58_2 hns58_4 hms58_0 hms58_1 hms58_2 hms58_4 hs59 hfs59 hns59_0 hns59_1 hns59_2 hns59_4 hms59_0 hms59_1 hms59_2 hms59_4 hs60 hfs60 hns60_0 hns60_1 hns60_2 hns60_4 hms60_0 hms60_1 hms60_2 hms60_4 hs61 hfs61 hns61_0 hns61_1 hns61_2 hns61_4 hms61_0 hms61_1 hms61_2 hms61_4 hs62 hfs62 hns62_0 hns62_1 hns62_2 hns62_4 hms62_0 hms62_1 hms62_2 hms62_4
         refine one_ (i := 7) (N := none) #[Tt,Tt,Tt,Tt,Tt,Tt,Tt,Tt] rfl rfl (one_of HT_.out (by kernel_rfl)) (by decide) (fun K hK => ?_)
         have hs63 : w52.cell? ⟨gb137, 0, none⟩ = some (.int .i64 0) := (blk_cell BK137.out 0).trans rfl
         have hfs63 := blk_frozen BK137.out 0
         have hns63_0 := NB113_137.out
         have hns63_1 := NB114_137.out
         have hns63_2 := NB115_137.out
         have hns63_3 := NB136_137.out
         have hms63_0 := NB137_113.out
         have hms63_1 := NB137_114.out
         have hms63_2 := NB137_115.out
         have hms63_3 := NB137_136.out
         have hs64 : w52.cell? ⟨gb137, 1, none⟩ = some (.int .i64 0) := (blk_cell BK137.out 1).trans rfl
         have hfs64 := blk_frozen BK137.out 1
         have hns64_0 := NB113_137.out
         have hns64_1 := NB114_137.out
         have hns64_2 := NB115_137.out
         have hns64_3 := NB136_137.out
         have hms64_0 := NB137_113.out
         have hms64_1 := NB137_114.out
         have hms64_2 := NB137_115.out
         have hms64_3 := NB137_136.out
         have hs65 : w52.cell? ⟨gb137, 2, none⟩ = some (.int .i64 0) := (blk_cell BK137.out 2).trans rfl
         have hfs65 := blk_frozen BK137.out 2
         have hns65_0 := NB113_137.out
         have hns65_1 := NB114_137.out
         have hns65_2 := NB115_137.out
         have hns65_3 := NB136_137.out
         have hms65_0 := NB137_113.out
         have hms65_1 := NB137_114.out
         have hms65_2 := NB137_115.out
         have hms65_3 := NB137_136.out
         have hs66 : w52.cell? ⟨gb137, 3, none⟩ = some (.int .i64 0) := (blk_cell BK137.out 3).trans rfl
         have hfs66 := blk_frozen BK137.out 3
         have hns66_0 := NB113_137.out
         have hns66_1 := NB114_137.out
         have hns66_2 := NB115_137.out
         have hns66_3 := NB136_137.out
         have hms66_0 := NB137_113.out
         have hms66_1 := NB137_114.out
         have hms66_2 := NB137_115.out
         have hms66_3 := NB137_136.out
         have hs67 : w52.cell? ⟨gb137, 4, none⟩ = some (.int .i64 0) := (blk_cell BK137.out 4).trans rfl
         have hfs67 := blk_frozen BK137.out 4
         have hns67_0 := NB113_137.out
         have hns67_1 := NB114_137.out
         have hns67_2 := NB115_137.out
         have hns67_3 := NB136_137.out
         have hms67_0 := NB137_113.out
         have hms67_1 := NB137_114.out
         have hms67_2 := NB137_115.out
         have hms67_3 := NB137_136.out
         have hs68 : w52.cell? ⟨gb137, 5, none⟩ = some (.int .i64 0) := (blk_cell BK137.out 5).trans rfl
         have hfs68 := blk_frozen BK137.out 5
         have hns68_0 := NB113_137.out
         have hns68_1 := NB114_137.out
         have hns68_2 := NB115_137.out
         have hns68_3 := NB136_137.out
         have hms68_0 := NB137_113.out
         have hms68_1 := NB137_114.out
         have hms68_2 := NB137_115.out
         have hms68_3 := NB137_136.out
         have hs69 : w52.cell? ⟨gb137, 6, none⟩ = some (.int .i64 0) := (blk_cell BK137.out 6).trans rfl
         have hfs69 := blk_frozen BK137.out 6
         have hns69_0 := NB113_137.out
         have hns69_1 := NB114_137.out
         have hns69_2 := NB115_137.out
         have hns69_3 := NB136_137.out
         have hms69_0 := NB137_113.out
         have hms69_1 := NB137_114.out
         have hms69_2 := NB137_115.out
         have hms69_3 := NB137_136.out
         have hs70 : w52.cell? ⟨gb137, 7, none⟩ = some (.int .i64 0) := (blk_cell BK137.out 7).trans rfl
         have hfs70 := blk_frozen BK137.out 7
         have hns70_0 := NB113_137.out
         have hns70_1 := NB114_137.out
         have hns70_2 := NB115_137.out
         have hns70_3 := NB136_137.out
         have hms70_0 := NB137_113.out
         have hms70_1 := NB137_114.out
         have hms70_2 := NB137_115.out
         have hms70_3 := NB137_136.out
         have hs71 : w52.cell? ⟨gb137, 8, none⟩ = some (.int .i64 0) := (blk_cell BK137.out 8).trans rfl
         have hfs71 := blk_frozen BK137.out 8
         have hns71_0 := NB113_137.out
         have hns71_1 := NB114_137.out
         have hns71_2 := NB115_137.out
         have hns71_3 := NB136_137.out
         have hms71_0 := NB137_113.out
         have hms71_1 := NB137_114.out
         have hms71_2 := NB137_115.out
         have hms71_3 := NB137_136.out
         have hs72 : w52.cell? ⟨gb137, 9, none⟩ = some (.int .i64 0) := (blk_cell BK137.out 9).trans rfl
         have hfs72 := blk_frozen BK137.out 9
         have hns72_0 := NB113_137.out
         have hns72_1 := NB114_137.out
         have hns72_2 := NB115_137.out
         have hns72_3 := NB136_137.out
         have hms72_0 := NB137_113.out
         have hms72_1 := NB137_114.out
         have hms72_2 := NB137_115.out
         have hms72_3 := NB137_136.out
         with_reducible refine skip_ (w1 := ?_) ?_ ?_ ?_ ?_
         rotate_left
         · rfl
         · rfl
         ·
          first | (exact store10_ rfl rfl rfl (by repeat' (first | (with_reducible exact Aside0.out (by assumption)) | refine blk_far ?_ (Aside0.out (by assumption)) _))) | (go_simp; rfl)
         refine hK.out _ _ ⟨((far10_ NB114_137.out).trans (hHeld.1)), ((far10_ NB114_137.out).trans (hHeld.2.1)), ((far10_ NB114_137.out).trans (hHeld.2.2.1)), ((far10_ NB114_137.out).trans (hHeld.2.2.2.1)), ((far10_ NB114_137.out).trans (hHeld.2.2.2.2.1)), ((far10_ NB114_137.out).trans (hHeld.2.2.2.2.2.1)), ((far10_ NB114_137.out).trans (hHeld.2.2.2.2.2.2.1)), ((far10_ NB114_137.out).trans (hHeld.2.2.2.2.2.2.2.1)), ((far10_ NB114_137.out).trans (hHeld.2.2.2.2.2.2.2.2.1)), ((far10_ NB114_137.out).trans (hHeld.2.2.2.2.2.2.2.2.2.1)), ((far10_ NB115_137.out).trans (hHeld.2.2.2.2.2.2.2.2.2.2.1)), ((far10_ NB115_137.out).trans (hHeld.2.2.2.2.2.2.2.2.2.2.2.1)), ((far10_ NB115_137.out).trans (hHeld.2.2.2.2.2.2.2.2.2.2.2.2.1)), ((far10_ NB115_137.out).trans (hHeld.2.2.2.2.2.2.2.2.2.2.2.2.2.1)), ((far10_ NB115_137.out).trans (hHeld.2.2.2.2.2.2.2.2.2.2.2.2.2.2.1)), ((far10_ NB115_137.out).trans (hHeld.2.2.2.2.2.2.2.2.2.2.2.2.2.2.2.1)), ((far10_ NB115_137.out).trans (hHeld.2.2.2.2.2.2.2.2.2.2.2.2.2.2.2.2.1)), ((far10_ NB115_137.out).trans (hHeld.2.2.2.2.2.2.2.2.2.2.2.2.2.2.2.2.2.1)), ((far10_ NB115_137.out).trans (hHeld.2.2.2.2.2.2.2.2.2.2.2.2.2.2.2.2.2.2.1)), ((far10_ NB115_137.out).trans (hHeld.2.2.2.2.2.2.2.2.2.2.2.2.2.2.2.2.2.2.2))⟩ (fun hHeld => ?_)
         clear hK K
         clear hs63 hfs63 hns63_0 hns63_1 hns63_2 hns63_3 hms63_0 hms63_1 hms63_2 hms63_3 hs64 hfs64 hns64_0 hns64_1 hns64_2 hns64_3 hms64_0 hms64_1 hms64_2 hms64_3 hs65 hfs65 hns65_0 hns65_1 hns65_2 hns65_3 hms65_0 hms65_1 hms65_2 hms65_3 hs66 hfs66 hns66_0 hns66_1 hns66_2 hns66_3 hms66_0 hms66_1 hms66_2 hms66_3 hs67 hfs67 hns67_0 hns67_1 hns67_2 hns67_3 hms67_0 hms67_1 hms67_2 hms67_3 hs68 hfs68 hns68_0 hns68_1 hns68_2 hns68_3 hms68_0 hms68_1 hms68_2 hms68_3 hs69 hfs69 hns69_0 hns69_1 hns69_2 hns69_3 hms69_0 hms69_1 hms69_2 hms69_3 hs70 hfs70 hns70_0 hns70_1 hns70_2 hns70_3 hms70_0 hms70_1 hms70_2 hms70_3 hs71 hfs71 hns71_0 hns71_1 hns71_2 hns71_3 hms71_0 hms71_1 hms71_2 hms71_3 hs72 hfs72 hns72_0 hns72_1 hns72_2 hns72_3 hms72_0 hms72_1 hms72_2 hms72_3
         refine done_ (done_of HT_.out (by kernel_rfl)) ?_
         have hnb73 := NB113_136.out
         have hnc73 := NB136_113.out
         have hnb74 := NB113_137.out
         have hnc74 := NB137_113.out
         have hcz75_0 : w52.cell? ⟨gb113, 0, none⟩ = some (.int .i64 a0_0) := (blk_cell BK113.out 0).trans rfl
         have hcz75_1 : w52.cell? ⟨gb113, 1, none⟩ = some (.int .i64 a0_1) := (blk_cell BK113.out 1).trans rfl
         have hcz75_2 : w52.cell? ⟨gb113, 2, none⟩ = some (.int .i64 a0_2) := (blk_cell BK113.out 2).trans rfl
         have hcz75_3 : w52.cell? ⟨gb113, 3, none⟩ = some (.int .i64 a0_3) := (blk_cell BK113.out 3).trans rfl
         have hcz75_4 : w52.cell? ⟨gb113, 4, none⟩ = some (.int .i64 a0_4) := (blk_cell BK113.out 4).trans rfl
         have hcz75_5 : w52.cell? ⟨gb113, 5, none⟩ = some (.int .i64 a0_5) := (blk_cell BK113.out 5).trans rfl
         have hcz75_6 : w52.cell? ⟨gb113, 6, none⟩ = some (.int .i64 a0_6) := (blk_cell BK113.out 6).trans rfl
         have hcz75_7 : w52.cell? ⟨gb113, 7, none⟩ = some (.int .i64 a0_7) := (blk_cell BK113.out 7).trans rfl
         have hcz75_8 : w52.cell? ⟨gb113, 8, none⟩ = some (.int .i64 a0_8) := (blk_cell BK113.out 8).trans rfl
         have hcz75_9 : w52.cell? ⟨gb113, 9, none⟩ = some (.int .i64 a0_9) := (blk_cell BK113.out 9).trans rfl
         have hfz75_0 := blk_frozen BK113.out 0
         have hfz75_1 := blk_frozen BK113.out 1
         have hfz75_2 := blk_frozen BK113.out 2
         have hfz75_3 := blk_frozen BK113.out 3
         have hfz75_4 := blk_frozen BK113.out 4
         have hfz75_5 := blk_frozen BK113.out 5
         have hfz75_6 := blk_frozen BK113.out 6
         have hfz75_7 := blk_frozen BK113.out 7
         have hfz75_8 := blk_frozen BK113.out 8
         have hfz75_9 := blk_frozen BK113.out 9
         try go_wp2_with (first | ((with_reducible refine gate_dst (N := 7) rfl ?_); refine box_event ?hg (N := 7) ?hd (cs := #[.int .i64 0, .int .i64 0, .int .i64 0, .int .i64 0, .int .i64 0, .int .i64 0, .int .i64 0, .int .i64 0, .int .i64 0, .int .i64 0]) (t := 26) ?hr ?_; (case hd => rfl); (case hg => rfl); (case hr => first | (go_simp; done) | (go_simp; rfl)); intro gb138 hg w76 hbox hb; have n0_ := Aside0.mk (blk_below (g := gb113) (o := .cells #[.int .i64 a0_0, .int .i64 a0_1, .int .i64 a0_2, .int .i64 a0_3, .int .i64 a0_4, .int .i64 a0_5, .int .i64 a0_6, .int .i64 a0_7, .int .i64 a0_8, .int .i64 a0_9] 26 (0, 0)) (by (with_reducible repeat (first | refine blk_drewN ?_ _ | refine blk_drew ?_ | refine blk_alloc ?_ _)); refine blk_far10_ ?_ NB113_137.out; refine blk_far10_ ?_ NB113_136.out; exact BK113.out) hb); have n1_ := Aside0.mk (blk_below (g := gb114) (o := .cells #[.int .i64 a0_0, .int .i64 1, .int .i64 a0_2, .int .i64 a0_3, .int .i64 a0_4, .int .i64 a0_5, .int .i64 a0_6, .int .i64 a0_7, .int .i64 a0_8, .int .i64 a0_9] 26 (0, 0)) (by (with_reducible repeat (first | refine blk_drewN ?_ _ | refine blk_drew ?_ | refine blk_alloc ?_ _)); refine blk_far10_ ?_ NB114_137.out; refine blk_far10_ ?_ NB114_136.out; exact BK114.out) hb); have n2_ := Aside0.mk (blk_below (g := gb115) (o := .cells #[.int .i64 a0_0, .int .i64 1, .int .i64 a0_2, .int .i64 a0_3, .int .i64 a0_4, .int .i64 a0_5, .int .i64 a0_6, .int .i64 a0_7, .int .i64 a0_8, .int .i64 a0_9] 26 (0, 0)) (by (with_reducible repeat (first | refine blk_drewN ?_ _ | refine blk_drew ?_ | refine blk_alloc ?_ _)); refine blk_far10_ ?_ NB115_137.out; refine blk_far10_ ?_ NB115_136.out; exact BK115.out) hb); have n3_ := Aside0.mk (blk_below (g := gb136) (o := .cells #[.int .i64 t116, .int .i64 t117, .int .i64 t118, .int .i64 t119, .int .i64 t120, .int .i64 t121, .int .i64 t122, .int .i64 t123, .int .i64 t124, .int .i64 t125] 26 (0, 0)) (by (with_reducible repeat (first | refine blk_drewN ?_ _ | refine blk_drew ?_ | refine blk_alloc ?_ _)); refine blk_far10_ ?_ NB136_137.out; apply blk_fill10_; exact BK136.out) hb); have n4_ := Aside0.mk (blk_below (g := gb137) (o := .cells #[.int .i64 t126, .int .i64 t127, .int .i64 t128, .int .i64 t129, .int .i64 t130, .int .i64 t131, .int .i64 t132, .int .i64 t133, .int .i64 t134, .int .i64 t135] 26 (0, 0)) (by (with_reducible repeat (first | refine blk_drewN ?_ _ | refine blk_drew ?_ | refine blk_alloc ?_ _)); apply blk_fill10_; refine blk_far10_ ?_ NB137_136.out; exact BK137.out) hb); have n5_ := Aside0.mk (below_step (by repeat (first | (with_reducible first | exact HB.out | apply below_alloc | apply pw_below_drewN | apply below_drew1 | refine below_set ?_ GE113.out | refine below_set ?_ GE114.out | refine below_set ?_ GE115.out | refine below_set ?_ GE136.out | refine below_set ?_ GE137.out) | exact HB.out)) hb); have n6_ := Aside0.mk (hbox); have n7_ := Aside0.mk ((by rw [hg]; exact (below_size (by repeat (first | (with_reducible first | exact HB.out | apply below_alloc | apply pw_below_drewN | apply below_drew1 | refine below_set ?_ GE113.out | refine below_set ?_ GE114.out | refine below_set ?_ GE115.out | refine below_set ?_ GE136.out | refine below_set ?_ GE137.out) | exact HB.out))) : w.heap.size ≤ gb138)); have n8_ := Aside0.mk ((by rw [hg]; exact (below_size (by repeat (first | (with_reducible first | exact HB.out | apply below_alloc | apply pw_below_drewN | apply below_drew1 | refine below_set ?_ GE113.out | refine below_set ?_ GE114.out | refine below_set ?_ GE115.out | refine below_set ?_ GE136.out | refine below_set ?_ GE137.out) | exact HB.out))) : w.heap.size ≤ gb138)); have n9_ := Aside0.mk ((by rw [hg]; exact Nat.ne_of_lt (blk_lt (g := gb113) (o := .cells #[.int .i64 a0_0, .int .i64 a0_1, .int .i64 a0_2, .int .i64 a0_3, .int .i64 a0_4, .int .i64 a0_5, .int .i64 a0_6, .int .i64 a0_7, .int .i64 a0_8, .int .i64 a0_9] 26 (0, 0)) (by (with_reducible repeat (first | refine blk_drewN ?_ _ | refine blk_drew ?_ | refine blk_alloc ?_ _)); refine blk_far10_ ?_ NB113_137.out; refine blk_far10_ ?_ NB113_136.out; exact BK113.out)) : gb113 ≠ gb138)); have n10_ := Aside0.mk ((by rw [hg]; exact Nat.ne_of_gt (blk_lt (g := gb113) (o := .cells #[.int .i64 a0_0, .int .i64 a0_1, .int .i64 a0_2, .int .i64 a0_3, .int .i64 a0_4, .int .i64 a0_5, .int .i64 a0_6, .int .i64 a0_7, .int .i64 a0_8, .int .i64 a0_9] 26 (0, 0)) (by (with_reducible repeat (first | refine blk_drewN ?_ _ | refine blk_drew ?_ | refine blk_alloc ?_ _)); refine blk_far10_ ?_ NB113_137.out; refine blk_far10_ ?_ NB113_136.out; exact BK113.out)) : gb138 ≠ gb113)); have n11_ := Aside0.mk ((by rw [hg]; exact Nat.ne_of_lt (blk_lt (g := gb114) (o := .cells #[.int .i64 a0_0, .int .i64 1, .int .i64 a0_2, .int .i64 a0_3, .int .i64 a0_4, .int .i64 a0_5, .int .i64 a0_6, .int .i64 a0_7, .int .i64 a0_8, .int .i64 a0_9] 26 (0, 0)) (by (with_reducible repeat (first | refine blk_drewN ?_ _ | refine blk_drew ?_ | refine blk_alloc ?_ _)); refine blk_far10_ ?_ NB114_137.out; refine blk_far10_ ?_ NB114_136.out; exact BK114.out)) : gb114 ≠ gb138)); have n12_ := Aside0.mk ((by rw [hg]; exact Nat.ne_of_gt (blk_lt (g := gb114) (o := .cells #[.int .i64 a0_0, .int .i64 1, .int .i64 a0_2, .int .i64 a0_3, .int .i64 a0_4, .int .i64 a0_5, .int .i64 a0_6, .int .i64 a0_7, .int .i64 a0_8, .int .i64 a0_9] 26 (0, 0)) (by (with_reducible repeat (first | refine blk_drewN ?_ _ | refine blk_drew ?_ | refine blk_alloc ?_ _)); refine blk_far10_ ?_ NB114_137.out; refine blk_far10_ ?_ NB114_136.out; exact BK114.out)) : gb138 ≠ gb114)); have n13_ := Aside0.mk ((by rw [hg]; exact Nat.ne_of_lt (blk_lt (g := gb115) (o := .cells #[.int .i64 a0_0, .int .i64 1, .int .i64 a0_2, .int .i64 a0_3, .int .i64 a0_4, .int .i64 a0_5, .int .i64 a0_6, .int .i64 a0_7, .int .i64 a0_8, .int .i64 a0_9] 26 (0, 0)) (by (with_reducible repeat (first | refine blk_drewN ?_ _ | refine blk_drew ?_ | refine blk_alloc ?_ _)); refine blk_far10_ ?_ NB115_137.out; refine blk_far10_ ?_ NB115_136.out; exact BK115.out)) : gb115 ≠ gb138)); have n14_ := Aside0.mk ((by rw [hg]; exact Nat.ne_of_gt (blk_lt (g := gb115) (o := .cells #[.int .i64 a0_0, .int .i64 1, .int .i64 a0_2, .int .i64 a0_3, .int .i64 a0_4, .int .i64 a0_5, .int .i64 a0_6, .int .i64 a0_7, .int .i64 a0_8, .int .i64 a0_9] 26 (0, 0)) (by (with_reducible repeat (first | refine blk_drewN ?_ _ | refine blk_drew ?_ | refine blk_alloc ?_ _)); refine blk_far10_ ?_ NB115_137.out; refine blk_far10_ ?_ NB115_136.out; exact BK115.out)) : gb138 ≠ gb115)); have n15_ := Aside0.mk ((by rw [hg]; exact Nat.ne_of_lt (blk_lt (g := gb136) (o := .cells #[.int .i64 t116, .int .i64 t117, .int .i64 t118, .int .i64 t119, .int .i64 t120, .int .i64 t121, .int .i64 t122, .int .i64 t123, .int .i64 t124, .int .i64 t125] 26 (0, 0)) (by (with_reducible repeat (first | refine blk_drewN ?_ _ | refine blk_drew ?_ | refine blk_alloc ?_ _)); refine blk_far10_ ?_ NB136_137.out; apply blk_fill10_; exact BK136.out)) : gb136 ≠ gb138)); have n16_ := Aside0.mk ((by rw [hg]; exact Nat.ne_of_gt (blk_lt (g := gb136) (o := .cells #[.int .i64 t116, .int .i64 t117, .int .i64 t118, .int .i64 t119, .int .i64 t120, .int .i64 t121, .int .i64 t122, .int .i64 t123, .int .i64 t124, .int .i64 t125] 26 (0, 0)) (by (with_reducible repeat (first | refine blk_drewN ?_ _ | refine blk_drew ?_ | refine blk_alloc ?_ _)); refine blk_far10_ ?_ NB136_137.out; apply blk_fill10_; exact BK136.out)) : gb138 ≠ gb136)); have n17_ := Aside0.mk ((by rw [hg]; exact Nat.ne_of_lt (blk_lt (g := gb137) (o := .cells #[.int .i64 t126, .int .i64 t127, .int .i64 t128, .int .i64 t129, .int .i64 t130, .int .i64 t131, .int .i64 t132, .int .i64 t133, .int .i64 t134, .int .i64 t135] 26 (0, 0)) (by (with_reducible repeat (first | refine blk_drewN ?_ _ | refine blk_drew ?_ | refine blk_alloc ?_ _)); apply blk_fill10_; refine blk_far10_ ?_ NB137_136.out; exact BK137.out)) : gb137 ≠ gb138)); have n18_ := Aside0.mk ((by rw [hg]; exact Nat.ne_of_gt (blk_lt (g := gb137) (o := .cells #[.int .i64 t126, .int .i64 t127, .int .i64 t128, .int .i64 t129, .int .i64 t130, .int .i64 t131, .int .i64 t132, .int .i64 t133, .int .i64 t134, .int .i64 t135] 26 (0, 0)) (by (with_reducible repeat (first | refine blk_drewN ?_ _ | refine blk_drew ?_ | refine blk_alloc ?_ _)); apply blk_fill10_; refine blk_far10_ ?_ NB137_136.out; exact BK137.out)) : gb138 ≠ gb137)); clear BK113; clear BK114; clear BK115; clear BK136; clear BK137; clear HB; have BK113 := n0_; have BK114 := n1_; have BK115 := n2_; have BK136 := n3_; have BK137 := n4_; have HB := n5_; have BK138 := n6_; have GW138 := n7_; have GE138 := n8_; have NB113_138 := n9_; have NB138_113 := n10_; have NB114_138 := n11_; have NB138_114 := n12_; have NB115_138 := n13_; have NB138_115 := n14_; have NB136_138 := n15_; have NB138_136 := n16_; have NB137_138 := n17_; have NB138_137 := n18_; clear n0_ n1_ n2_ n3_ n4_ n5_ n6_ n7_ n8_ n9_ n10_ n11_ n12_ n13_ n14_ n15_ n16_ n17_ n18_; clear hb hbox hg; have hnb77 := NB138_113.out; have hnc77 := NB113_138.out; have hnb78 := NB138_114.out; have hnc78 := NB114_138.out; have hnb79 := NB138_115.out; have hnc79 := NB115_138.out; have hnb80 := NB138_136.out; have hnc80 := NB136_138.out; have hnb81 := NB138_137.out; have hnc81 := NB137_138.out; have hcz82_0 : w76.cell? ⟨gb138, 0, none⟩ = some (.int .i64 0) := (blk_cell BK138.out 0).trans rfl; have hcz82_1 : w76.cell? ⟨gb138, 1, none⟩ = some (.int .i64 0) := (blk_cell BK138.out 1).trans rfl; have hcz82_2 : w76.cell? ⟨gb138, 2, none⟩ = some (.int .i64 0) := (blk_cell BK138.out 2).trans rfl; have hcz82_3 : w76.cell? ⟨gb138, 3, none⟩ = some (.int .i64 0) := (blk_cell BK138.out 3).trans rfl; have hcz82_4 : w76.cell? ⟨gb138, 4, none⟩ = some (.int .i64 0) := (blk_cell BK138.out 4).trans rfl; have hcz82_5 : w76.cell? ⟨gb138, 5, none⟩ = some (.int .i64 0) := (blk_cell BK138.out 5).trans rfl; have hcz82_6 : w76.cell? ⟨gb138, 6, none⟩ = some (.int .i64 0) := (blk_cell BK138.out 6).trans rfl; have hcz82_7 : w76.cell? ⟨gb138, 7, none⟩ = some (.int .i64 0) := (blk_cell BK138.out 7).trans rfl; have hcz82_8 : w76.cell? ⟨gb138, 8, none⟩ = some (.int .i64 0) := (blk_cell BK138.out 8).trans rfl; have hcz82_9 : w76.cell? ⟨gb138, 9, none⟩ = some (.int .i64 0) := (blk_cell BK138.out 9).trans rfl; have hfz82_0 := blk_frozen BK138.out 0; have hfz82_1 := blk_frozen BK138.out 1; have hfz82_2 := blk_frozen BK138.out 2; have hfz82_3 := blk_frozen BK138.out 3; have hfz82_4 := blk_frozen BK138.out 4; have hfz82_5 := blk_frozen BK138.out 5; have hfz82_6 := blk_frozen BK138.out 6; have hfz82_7 := blk_frozen BK138.out 7; have hfz82_8 := blk_frozen BK138.out 8; have hfz82_9 := blk_frozen BK138.out 9) | ((with_reducible refine gate_store (t := 26) (p := 7) rfl ?_); refine store_event (t := 26) (p := 7) (v := ?vo_w83) (w1 := ((((((((((w76.setCell ⟨gb138, 0, none⟩ (.int .i64 a0_0)).setCell ⟨gb138, 1, none⟩ (.int .i64 a0_1)).setCell ⟨gb138, 2, none⟩ (.int .i64 a0_2)).setCell ⟨gb138, 3, none⟩ (.int .i64 a0_3)).setCell ⟨gb138, 4, none⟩ (.int .i64 a0_4)).setCell ⟨gb138, 5, none⟩ (.int .i64 a0_5)).setCell ⟨gb138, 6, none⟩ (.int .i64 a0_6)).setCell ⟨gb138, 7, none⟩ (.int .i64 a0_7)).setCell ⟨gb138, 8, none⟩ (.int .i64 a0_8)).setCell ⟨gb138, 9, none⟩ (.int .i64 a0_9))) ?hg ?ho ?hn ?hr ?_; (case ho => rfl); (case hg => rfl); (case hn => rfl); (case hr => first | (go_simp; done) | (go_simp; rfl)); intro w83 hw; have n0_ : Aside0 (w83.heap[gb113]? = some (.cells #[.int .i64 a0_0, .int .i64 a0_1, .int .i64 a0_2, .int .i64 a0_3, .int .i64 a0_4, .int .i64 a0_5, .int .i64 a0_6, .int .i64 a0_7, .int .i64 a0_8, .int .i64 a0_9] 26 (0, 0))) := ⟨(by rw [hw]; exact (by (with_reducible repeat (first | refine blk_drewN ?_ _ | refine blk_drew ?_ | refine blk_alloc ?_ _)); refine blk_far10_ ?_ NB113_138.out; exact BK113.out))⟩; have n1_ : Aside0 (w83.heap[gb114]? = some (.cells #[.int .i64 a0_0, .int .i64 1, .int .i64 a0_2, .int .i64 a0_3, .int .i64 a0_4, .int .i64 a0_5, .int .i64 a0_6, .int .i64 a0_7, .int .i64 a0_8, .int .i64 a0_9] 26 (0, 0))) := ⟨(by rw [hw]; exact (by (with_reducible repeat (first | refine blk_drewN ?_ _ | refine blk_drew ?_ | refine blk_alloc ?_ _)); refine blk_far10_ ?_ NB114_138.out; exact BK114.out))⟩; have n2_ : Aside0 (w83.heap[gb115]? = some (.cells #[.int .i64 a0_0, .int .i64 1, .int .i64 a0_2, .int .i64 a0_3, .int .i64 a0_4, .int .i64 a0_5, .int .i64 a0_6, .int .i64 a0_7, .int .i64 a0_8, .int .i64 a0_9] 26 (0, 0))) := ⟨(by rw [hw]; exact (by (with_reducible repeat (first | refine blk_drewN ?_ _ | refine blk_drew ?_ | refine blk_alloc ?_ _)); refine blk_far10_ ?_ NB115_138.out; exact BK115.out))⟩; have n3_ : Aside0 (w83.heap[gb136]? = some (.cells #[.int .i64 t116, .int .i64 t117, .int .i64 t118, .int .i64 t119, .int .i64 t120, .int .i64 t121, .int .i64 t122, .int .i64 t123, .int .i64 t124, .int .i64 t125] 26 (0, 0))) := ⟨(by rw [hw]; exact (by (with_reducible repeat (first | refine blk_drewN ?_ _ | refine blk_drew ?_ | refine blk_alloc ?_ _)); refine blk_far10_ ?_ NB136_138.out; exact BK136.out))⟩; have n4_ : Aside0 (w83.heap[gb137]? = some (.cells #[.int .i64 t126, .int .i64 t127, .int .i64 t128, .int .i64 t129, .int .i64 t130, .int .i64 t131, .int .i64 t132, .int .i64 t133, .int .i64 t134, .int .i64 t135] 26 (0, 0))) := ⟨(by rw [hw]; exact (by (with_reducible repeat (first | refine blk_drewN ?_ _ | refine blk_drew ?_ | refine blk_alloc ?_ _)); refine blk_far10_ ?_ NB137_138.out; exact BK137.out))⟩; have n5_ : Aside0 (w83.heap[gb138]? = some (.cells #[.int .i64 a0_0, .int .i64 a0_1, .int .i64 a0_2, .int .i64 a0_3, .int .i64 a0_4, .int .i64 a0_5, .int .i64 a0_6, .int .i64 a0_7, .int .i64 a0_8, .int .i64 a0_9] 26 (0, 0))) := ⟨(by rw [hw]; exact (by (with_reducible repeat (first | refine blk_drewN ?_ _ | refine blk_drew ?_ | refine blk_alloc ?_ _)); apply blk_fill10_; exact BK138.out))⟩; have n6_ : Aside0 (Below w.heap.size w w83) := ⟨(by rw [hw]; exact (by repeat (first | (with_reducible first | exact HB.out | apply below_alloc | apply pw_below_drewN | apply below_drew1 | refine below_set ?_ GE113.out | refine below_set ?_ GE114.out | refine below_set ?_ GE115.out | refine below_set ?_ GE136.out | refine below_set ?_ GE137.out | refine below_set ?_ GE138.out) | exact HB.out)))⟩; clear hw; clear BK113; clear BK114; clear BK115; clear BK136; clear BK137; clear BK138; clear HB; have BK113 := n0_; have BK114 := n1_; have BK115 := n2_; have BK136 := n3_; have BK137 := n4_; have BK138 := n5_; have HB := n6_; clear n0_ n1_ n2_ n3_ n4_ n5_ n6_; have hcz84_0 : w83.cell? ⟨gb138, 0, none⟩ = some (.int .i64 a0_0) := (blk_cell BK138.out 0).trans rfl; have hcz84_1 : w83.cell? ⟨gb138, 1, none⟩ = some (.int .i64 a0_1) := (blk_cell BK138.out 1).trans rfl; have hcz84_2 : w83.cell? ⟨gb138, 2, none⟩ = some (.int .i64 a0_2) := (blk_cell BK138.out 2).trans rfl; have hcz84_3 : w83.cell? ⟨gb138, 3, none⟩ = some (.int .i64 a0_3) := (blk_cell BK138.out 3).trans rfl; have hcz84_4 : w83.cell? ⟨gb138, 4, none⟩ = some (.int .i64 a0_4) := (blk_cell BK138.out 4).trans rfl; have hcz84_5 : w83.cell? ⟨gb138, 5, none⟩ = some (.int .i64 a0_5) := (blk_cell BK138.out 5).trans rfl; have hcz84_6 : w83.cell? ⟨gb138, 6, none⟩ = some (.int .i64 a0_6) := (blk_cell BK138.out 6).trans rfl; have hcz84_7 : w83.cell? ⟨gb138, 7, none⟩ = some (.int .i64 a0_7) := (blk_cell BK138.out 7).trans rfl; have hcz84_8 : w83.cell? ⟨gb138, 8, none⟩ = some (.int .i64 a0_8) := (blk_cell BK138.out 8).trans rfl; have hcz84_9 : w83.cell? ⟨gb138, 9, none⟩ = some (.int .i64 a0_9) := (blk_cell BK138.out 9).trans rfl; have hfz84_0 := blk_frozen BK138.out 0; have hfz84_1 := blk_frozen BK138.out 1; have hfz84_2 := blk_frozen BK138.out 2; have hfz84_3 := blk_frozen BK138.out 3; have hfz84_4 := blk_frozen BK138.out 4; have hfz84_5 := blk_frozen BK138.out 5; have hfz84_6 := blk_frozen BK138.out 6; have hfz84_7 := blk_frozen BK138.out 7; have hfz84_8 := blk_frozen BK138.out 8; have hfz84_9 := blk_frozen BK138.out 9) | ((with_reducible refine gate_callee (f := 10) rfl ?_); refine goesL_ (some 24) rfl rfl Try.func10 (by kernel_rfl) rfl #[.int .i64 6, .agg #[.int .i64 a0_0, .int .i64 a0_1, .int .i64 1, .int .i64 a0_3, .int .i64 a0_4, .int .i64 a0_5, .int .i64 a0_6, .int .i64 a0_7, .int .i64 a0_8, .int .i64 a0_9]] rfl (by (try simp only [List.map_toArray, List.map_cons, List.map_nil]); first | done | rfl | (simp only [List.length_drop, List.length_take]; rfl)) ?_; (with_reducible refine (count_Step.calls 6 a0_0 a0_1 1 a0_3 a0_4 a0_5 a0_6 a0_7 a0_8 a0_9 t139 t140 t141 t142 t143 t144 t145 t146 t147 t148 _ A4.out).mono ?_); rintro e w85 ⟨rfl, hb⟩; refine ⟨_, rfl, ?_⟩; have n0_ := Aside0.mk (blk_below (g := gb113) (o := .cells #[.int .i64 a0_0, .int .i64 a0_1, .int .i64 a0_2, .int .i64 a0_3, .int .i64 a0_4, .int .i64 a0_5, .int .i64 a0_6, .int .i64 a0_7, .int .i64 a0_8, .int .i64 a0_9] 26 (0, 0)) (by (with_reducible repeat (first | refine blk_drewN ?_ _ | refine blk_drew ?_ | refine blk_alloc ?_ _)); refine blk_far ?_ NB113_138.out _; exact BK113.out) hb); have n1_ := Aside0.mk (blk_below (g := gb114) (o := .cells #[.int .i64 a0_0, .int .i64 1, .int .i64 a0_2, .int .i64 a0_3, .int .i64 a0_4, .int .i64 a0_5, .int .i64 a0_6, .int .i64 a0_7, .int .i64 a0_8, .int .i64 a0_9] 26 (0, 0)) (by (with_reducible repeat (first | refine blk_drewN ?_ _ | refine blk_drew ?_ | refine blk_alloc ?_ _)); refine blk_far ?_ NB114_138.out _; exact BK114.out) hb); have n2_ := Aside0.mk (blk_below (g := gb115) (o := .cells #[.int .i64 a0_0, .int .i64 1, .int .i64 a0_2, .int .i64 a0_3, .int .i64 a0_4, .int .i64 a0_5, .int .i64 a0_6, .int .i64 a0_7, .int .i64 a0_8, .int .i64 a0_9] 26 (0, 0)) (by (with_reducible repeat (first | refine blk_drewN ?_ _ | refine blk_drew ?_ | refine blk_alloc ?_ _)); refine blk_far ?_ NB115_138.out _; exact BK115.out) hb); have n3_ := Aside0.mk (blk_below (g := gb136) (o := .cells #[.int .i64 t116, .int .i64 t117, .int .i64 t118, .int .i64 t119, .int .i64 t120, .int .i64 t121, .int .i64 t122, .int .i64 t123, .int .i64 t124, .int .i64 t125] 26 (0, 0)) (by (with_reducible repeat (first | refine blk_drewN ?_ _ | refine blk_drew ?_ | refine blk_alloc ?_ _)); refine blk_far ?_ NB136_138.out _; exact BK136.out) hb); have n4_ := Aside0.mk (blk_below (g := gb137) (o := .cells #[.int .i64 t126, .int .i64 t127, .int .i64 t128, .int .i64 t129, .int .i64 t130, .int .i64 t131, .int .i64 t132, .int .i64 t133, .int .i64 t134, .int .i64 t135] 26 (0, 0)) (by (with_reducible repeat (first | refine blk_drewN ?_ _ | refine blk_drew ?_ | refine blk_alloc ?_ _)); refine blk_far ?_ NB137_138.out _; exact BK137.out) hb); have n5_ := Aside0.mk (blk_below (g := gb138) (o := .cells #[.int .i64 a0_0, .int .i64 a0_1, .int .i64 1, .int .i64 a0_3, .int .i64 a0_4, .int .i64 a0_5, .int .i64 a0_6, .int .i64 a0_7, .int .i64 a0_8, .int .i64 a0_9] 26 (0, 0)) (by (with_reducible repeat (first | refine blk_drewN ?_ _ | refine blk_drew ?_ | refine blk_alloc ?_ _)); refine blk_put (cs := #[.int .i64 a0_0, .int .i64 a0_1, .int .i64 a0_2, .int .i64 a0_3, .int .i64 a0_4, .int .i64 a0_5, .int .i64 a0_6, .int .i64 a0_7, .int .i64 a0_8, .int .i64 a0_9]) ?_ 2 _ rfl; exact BK138.out) hb); have n6_ := Aside0.mk (below_step (by repeat (first | (with_reducible first | exact HB.out | apply below_alloc | apply pw_below_drewN | apply below_drew1 | refine below_set ?_ GE113.out | refine below_set ?_ GE114.out | refine below_set ?_ GE115.out | refine below_set ?_ GE136.out | refine below_set ?_ GE137.out | refine below_set ?_ GE138.out) | exact HB.out)) hb); clear BK113; clear BK114; clear BK115; clear BK136; clear BK137; clear BK138; clear HB; have BK113 := n0_; have BK114 := n1_; have BK115 := n2_; have BK136 := n3_; have BK137 := n4_; have BK138 := n5_; have HB := n6_; clear n0_ n1_ n2_ n3_ n4_ n5_ n6_; (try clear hb); (try clear hb2); (try clear hk); (try clear hi)) | ((with_reducible refine gate_dst (N := 8) rfl ?_); refine box_event ?hg (N := 8) ?hd (cs := #[.int .i64 0, .int .i64 0, .int .i64 0, .int .i64 0, .int .i64 0, .int .i64 0, .int .i64 0, .int .i64 0, .int .i64 0, .int .i64 0]) (t := 26) ?hr ?_; (case hd => rfl); (case hg => rfl); (case hr => first | (go_simp; done) | (go_simp; rfl)); intro gb149 hg w86 hbox hb; have n0_ := blkB_ hb BK113; have n1_ := blkB_ hb BK114; have n2_ := blkB_ hb BK115; have n3_ := blkB_ hb BK136; have n4_ := blkB_ hb BK137; have n5_ := blkB_ hb BK138; have n6_ := Aside0.mk (below_step (by repeat (first | (with_reducible first | exact HB.out | apply below_alloc | apply pw_below_drewN | apply below_drew1 | refine below_set ?_ GE113.out | refine below_set ?_ GE114.out | refine below_set ?_ GE115.out | refine below_set ?_ GE136.out | refine below_set ?_ GE137.out | refine below_set ?_ GE138.out) | exact HB.out)) hb); have n7_ := Aside0.mk (hbox); have n8_ := Aside0.mk ((by rw [hg]; exact (below_size (by repeat (first | (with_reducible first | exact HB.out | apply below_alloc | apply pw_below_drewN | apply below_drew1 | refine below_set ?_ GE113.out | refine below_set ?_ GE114.out | refine below_set ?_ GE115.out | refine below_set ?_ GE136.out | refine below_set ?_ GE137.out | refine below_set ?_ GE138.out) | exact HB.out))) : w.heap.size ≤ gb149)); have n9_ := Aside0.mk ((by rw [hg]; exact (below_size (by repeat (first | (with_reducible first | exact HB.out | apply below_alloc | apply pw_below_drewN | apply below_drew1 | refine below_set ?_ GE113.out | refine below_set ?_ GE114.out | refine below_set ?_ GE115.out | refine below_set ?_ GE136.out | refine below_set ?_ GE137.out | refine below_set ?_ GE138.out) | exact HB.out))) : w.heap.size ≤ gb149)); have n10_ := neL_ hg BK113; have n11_ := neG_ hg BK113; have n12_ := neL_ hg BK114; have n13_ := neG_ hg BK114; have n14_ := neL_ hg BK115; have n15_ := neG_ hg BK115; have n16_ := neL_ hg BK136; have n17_ := neG_ hg BK136; have n18_ := neL_ hg BK137; have n19_ := neG_ hg BK137; have n20_ := neL_ hg BK138; have n21_ := neG_ hg BK138; clear BK113; clear BK114; clear BK115; clear BK136; clear BK137; clear BK138; clear HB; have BK113 := n0_; have BK114 := n1_; have BK115 := n2_; have BK136 := n3_; have BK137 := n4_; have BK138 := n5_; have HB := n6_; have BK149 := n7_; have GW149 := n8_; have GE149 := n9_; have NB113_149 := n10_; have NB149_113 := n11_; have NB114_149 := n12_; have NB149_114 := n13_; have NB115_149 := n14_; have NB149_115 := n15_; have NB136_149 := n16_; have NB149_136 := n17_; have NB137_149 := n18_; have NB149_137 := n19_; have NB138_149 := n20_; have NB149_138 := n21_; clear n0_ n1_ n2_ n3_ n4_ n5_ n6_ n7_ n8_ n9_ n10_ n11_ n12_ n13_ n14_ n15_ n16_ n17_ n18_ n19_ n20_ n21_; clear hb hbox hg; have hnb87 := NB149_113.out; have hnc87 := NB113_149.out; have hnb88 := NB149_114.out; have hnc88 := NB114_149.out; have hnb89 := NB149_115.out; have hnc89 := NB115_149.out; have hnb90 := NB149_136.out; have hnc90 := NB136_149.out; have hnb91 := NB149_137.out; have hnc91 := NB137_149.out; have hnb92 := NB149_138.out; have hnc92 := NB138_149.out; have hcz93_0 : w86.cell? ⟨gb149, 0, none⟩ = some (.int .i64 0) := (blk_cell BK149.out 0).trans rfl; have hcz93_1 : w86.cell? ⟨gb149, 1, none⟩ = some (.int .i64 0) := (blk_cell BK149.out 1).trans rfl; have hcz93_2 : w86.cell? ⟨gb149, 2, none⟩ = some (.int .i64 0) := (blk_cell BK149.out 2).trans rfl; have hcz93_3 : w86.cell? ⟨gb149, 3, none⟩ = some (.int .i64 0) := (blk_cell BK149.out 3).trans rfl; have hcz93_4 : w86.cell? ⟨gb149, 4, none⟩ = some (.int .i64 0) := (blk_cell BK149.out 4).trans rfl; have hcz93_5 : w86.cell? ⟨gb149, 5, none⟩ = some (.int .i64 0) := (blk_cell BK149.out 5).trans rfl; have hcz93_6 : w86.cell? ⟨gb149, 6, none⟩ = some (.int .i64 0) := (blk_cell BK149.out 6).trans rfl; have hcz93_7 : w86.cell? ⟨gb149, 7, none⟩ = some (.int .i64 0) := (blk_cell BK149.out 7).trans rfl; have hcz93_8 : w86.cell? ⟨gb149, 8, none⟩ = some (.int .i64 0) := (blk_cell BK149.out 8).trans rfl; have hcz93_9 : w86.cell? ⟨gb149, 9, none⟩ = some (.int .i64 0) := (blk_cell BK149.out 9).trans rfl; have hfz93_0 := blk_frozen BK149.out 0; have hfz93_1 := blk_frozen BK149.out 1; have hfz93_2 := blk_frozen BK149.out 2; have hfz93_3 := blk_frozen BK149.out 3; have hfz93_4 := blk_frozen BK149.out 4; have hfz93_5 := blk_frozen BK149.out 5; have hfz93_6 := blk_frozen BK149.out 6; have hfz93_7 := blk_frozen BK149.out 7; have hfz93_8 := blk_frozen BK149.out 8; have hfz93_9 := blk_frozen BK149.out 9) | ((with_reducible refine gate_store (t := 26) (p := 8) rfl ?_); refine store_event (t := 26) (p := 8) (v := ?vo_w94) (w1 := ((((((((((w86.setCell ⟨gb149, 0, none⟩ (.int .i64 t139)).setCell ⟨gb149, 1, none⟩ (.int .i64 t140)).setCell ⟨gb149, 2, none⟩ (.int .i64 t141)).setCell ⟨gb149, 3, none⟩ (.int .i64 t142)).setCell ⟨gb149, 4, none⟩ (.int .i64 t143)).setCell ⟨gb149, 5, none⟩ (.int .i64 t144)).setCell ⟨gb149, 6, none⟩ (.int .i64 t145)).setCell ⟨gb149, 7, none⟩ (.int .i64 t146)).setCell ⟨gb149, 8, none⟩ (.int .i64 t147)).setCell ⟨gb149, 9, none⟩ (.int .i64 t148))) ?hg ?ho ?hn ?hr ?_; (case ho => rfl); (case hg => rfl); (case hn => rfl); (case hr => first | (go_simp; done) | (go_simp; rfl)); intro w94 hw; have n0_ : Aside0 (w94.heap[gb113]? = some (.cells #[.int .i64 a0_0, .int .i64 a0_1, .int .i64 a0_2, .int .i64 a0_3, .int .i64 a0_4, .int .i64 a0_5, .int .i64 a0_6, .int .i64 a0_7, .int .i64 a0_8, .int .i64 a0_9] 26 (0, 0))) := ⟨(by rw [hw]; exact (by (with_reducible repeat (first | refine blk_drewN ?_ _ | refine blk_drew ?_ | refine blk_alloc ?_ _)); refine blk_far10_ ?_ NB113_149.out; exact BK113.out))⟩; have n1_ : Aside0 (w94.heap[gb114]? = some (.cells #[.int .i64 a0_0, .int .i64 1, .int .i64 a0_2, .int .i64 a0_3, .int .i64 a0_4, .int .i64 a0_5, .int .i64 a0_6, .int .i64 a0_7, .int .i64 a0_8, .int .i64 a0_9] 26 (0, 0))) := ⟨(by rw [hw]; exact (by (with_reducible repeat (first | refine blk_drewN ?_ _ | refine blk_drew ?_ | refine blk_alloc ?_ _)); refine blk_far10_ ?_ NB114_149.out; exact BK114.out))⟩; have n2_ : Aside0 (w94.heap[gb115]? = some (.cells #[.int .i64 a0_0, .int .i64 1, .int .i64 a0_2, .int .i64 a0_3, .int .i64 a0_4, .int .i64 a0_5, .int .i64 a0_6, .int .i64 a0_7, .int .i64 a0_8, .int .i64 a0_9] 26 (0, 0))) := ⟨(by rw [hw]; exact (by (with_reducible repeat (first | refine blk_drewN ?_ _ | refine blk_drew ?_ | refine blk_alloc ?_ _)); refine blk_far10_ ?_ NB115_149.out; exact BK115.out))⟩; have n3_ : Aside0 (w94.heap[gb136]? = some (.cells #[.int .i64 t116, .int .i64 t117, .int .i64 t118, .int .i64 t119, .int .i64 t120, .int .i64 t121, .int .i64 t122, .int .i64 t123, .int .i64 t124, .int .i64 t125] 26 (0, 0))) := ⟨(by rw [hw]; exact (by (with_reducible repeat (first | refine blk_drewN ?_ _ | refine blk_drew ?_ | refine blk_alloc ?_ _)); refine blk_far10_ ?_ NB136_149.out; exact BK136.out))⟩; have n4_ : Aside0 (w94.heap[gb137]? = some (.cells #[.int .i64 t126, .int .i64 t127, .int .i64 t128, .int .i64 t129, .int .i64 t130, .int .i64 t131, .int .i64 t132, .int .i64 t133, .int .i64 t134, .int .i64 t135] 26 (0, 0))) := ⟨(by rw [hw]; exact (by (with_reducible repeat (first | refine blk_drewN ?_ _ | refine blk_drew ?_ | refine blk_alloc ?_ _)); refine blk_far10_ ?_ NB137_149.out; exact BK137.out))⟩; have n5_ : Aside0 (w94.heap[gb138]? = some (.cells #[.int .i64 a0_0, .int .i64 a0_1, .int .i64 1, .int .i64 a0_3, .int .i64 a0_4, .int .i64 a0_5, .int .i64 a0_6, .int .i64 a0_7, .int .i64 a0_8, .int .i64 a0_9] 26 (0, 0))) := ⟨(by rw [hw]; exact (by (with_reducible repeat (first | refine blk_drewN ?_ _ | refine blk_drew ?_ | refine blk_alloc ?_ _)); refine blk_far10_ ?_ NB138_149.out; exact BK138.out))⟩; have n6_ : Aside0 (w94.heap[gb149]? = some (.cells #[.int .i64 t139, .int .i64 t140, .int .i64 t141, .int .i64 t142, .int .i64 t143, .int .i64 t144, .int .i64 t145, .int .i64 t146, .int .i64 t147, .int .i64 t148] 26 (0, 0))) := ⟨(by rw [hw]; exact (by (with_reducible repeat (first | refine blk_drewN ?_ _ | refine blk_drew ?_ | refine blk_alloc ?_ _)); apply blk_fill10_; exact BK149.out))⟩; have n7_ : Aside0 (Below w.heap.size w w94) := ⟨(by rw [hw]; exact (by repeat (first | (with_reducible first | exact HB.out | apply below_alloc | apply pw_below_drewN | apply below_drew1 | refine below_set ?_ GE113.out | refine below_set ?_ GE114.out | refine below_set ?_ GE115.out | refine below_set ?_ GE136.out | refine below_set ?_ GE137.out | refine below_set ?_ GE138.out | refine below_set ?_ GE149.out) | exact HB.out)))⟩; clear hw; clear BK113; clear BK114; clear BK115; clear BK136; clear BK137; clear BK138; clear BK149; clear HB; have BK113 := n0_; have BK114 := n1_; have BK115 := n2_; have BK136 := n3_; have BK137 := n4_; have BK138 := n5_; have BK149 := n6_; have HB := n7_; clear n0_ n1_ n2_ n3_ n4_ n5_ n6_ n7_; have hcz95_0 : w94.cell? ⟨gb138, 0, none⟩ = some (.int .i64 a0_0) := (blk_cell BK138.out 0).trans rfl; have hcz95_1 : w94.cell? ⟨gb138, 1, none⟩ = some (.int .i64 a0_1) := (blk_cell BK138.out 1).trans rfl; have hcz95_2 : w94.cell? ⟨gb138, 2, none⟩ = some (.int .i64 1) := (blk_cell BK138.out 2).trans rfl; have hcz95_3 : w94.cell? ⟨gb138, 3, none⟩ = some (.int .i64 a0_3) := (blk_cell BK138.out 3).trans rfl; have hcz95_4 : w94.cell? ⟨gb138, 4, none⟩ = some (.int .i64 a0_4) := (blk_cell BK138.out 4).trans rfl; have hcz95_5 : w94.cell? ⟨gb138, 5, none⟩ = some (.int .i64 a0_5) := (blk_cell BK138.out 5).trans rfl; have hcz95_6 : w94.cell? ⟨gb138, 6, none⟩ = some (.int .i64 a0_6) := (blk_cell BK138.out 6).trans rfl; have hcz95_7 : w94.cell? ⟨gb138, 7, none⟩ = some (.int .i64 a0_7) := (blk_cell BK138.out 7).trans rfl; have hcz95_8 : w94.cell? ⟨gb138, 8, none⟩ = some (.int .i64 a0_8) := (blk_cell BK138.out 8).trans rfl; have hcz95_9 : w94.cell? ⟨gb138, 9, none⟩ = some (.int .i64 a0_9) := (blk_cell BK138.out 9).trans rfl; have hfz95_0 := blk_frozen BK138.out 0; have hfz95_1 := blk_frozen BK138.out 1; have hfz95_2 := blk_frozen BK138.out 2; have hfz95_3 := blk_frozen BK138.out 3; have hfz95_4 := blk_frozen BK138.out 4; have hfz95_5 := blk_frozen BK138.out 5; have hfz95_6 := blk_frozen BK138.out 6; have hfz95_7 := blk_frozen BK138.out 7; have hfz95_8 := blk_frozen BK138.out 8; have hfz95_9 := blk_frozen BK138.out 9) | ((with_reducible refine gate_callee (f := 10) rfl ?_); refine goesL_ (some 30) rfl rfl Try.func10 (by kernel_rfl) rfl #[.int .i64 6, .agg #[.int .i64 a0_0, .int .i64 a0_1, .int .i64 0, .int .i64 1, .int .i64 a0_4, .int .i64 a0_5, .int .i64 a0_6, .int .i64 a0_7, .int .i64 a0_8, .int .i64 a0_9]] rfl (by (try simp only [List.map_toArray, List.map_cons, List.map_nil]); first | done | rfl | (simp only [List.length_drop, List.length_take]; rfl)) ?_; (with_reducible refine (count_Step.calls 6 a0_0 a0_1 0 1 a0_4 a0_5 a0_6 a0_7 a0_8 a0_9 t150 t151 t152 t153 t154 t155 t156 t157 t158 t159 _ A5.out).mono ?_); rintro e w96 ⟨rfl, hb⟩; refine ⟨_, rfl, ?_⟩; have n0_ := Aside0.mk (blk_below (g := gb113) (o := .cells #[.int .i64 a0_0, .int .i64 a0_1, .int .i64 a0_2, .int .i64 a0_3, .int .i64 a0_4, .int .i64 a0_5, .int .i64 a0_6, .int .i64 a0_7, .int .i64 a0_8, .int .i64 a0_9] 26 (0, 0)) (by (with_reducible repeat (first | refine blk_drewN ?_ _ | refine blk_drew ?_ | refine blk_alloc ?_ _)); refine blk_far ?_ NB113_138.out _; refine blk_far ?_ NB113_138.out _; exact BK113.out) hb); have n1_ := Aside0.mk (blk_below (g := gb114) (o := .cells #[.int .i64 a0_0, .int .i64 1, .int .i64 a0_2, .int .i64 a0_3, .int .i64 a0_4, .int .i64 a0_5, .int .i64 a0_6, .int .i64 a0_7, .int .i64 a0_8, .int .i64 a0_9] 26 (0, 0)) (by (with_reducible repeat (first | refine blk_drewN ?_ _ | refine blk_drew ?_ | refine blk_alloc ?_ _)); refine blk_far ?_ NB114_138.out _; refine blk_far ?_ NB114_138.out _; exact BK114.out) hb); have n2_ := Aside0.mk (blk_below (g := gb115) (o := .cells #[.int .i64 a0_0, .int .i64 1, .int .i64 a0_2, .int .i64 a0_3, .int .i64 a0_4, .int .i64 a0_5, .int .i64 a0_6, .int .i64 a0_7, .int .i64 a0_8, .int .i64 a0_9] 26 (0, 0)) (by (with_reducible repeat (first | refine blk_drewN ?_ _ | refine blk_drew ?_ | refine blk_alloc ?_ _)); refine blk_far ?_ NB115_138.out _; refine blk_far ?_ NB115_138.out _; exact BK115.out) hb); have n3_ := Aside0.mk (blk_below (g := gb136) (o := .cells #[.int .i64 t116, .int .i64 t117, .int .i64 t118, .int .i64 t119, .int .i64 t120, .int .i64 t121, .int .i64 t122, .int .i64 t123, .int .i64 t124, .int .i64 t125] 26 (0, 0)) (by (with_reducible repeat (first | refine blk_drewN ?_ _ | refine blk_drew ?_ | refine blk_alloc ?_ _)); refine blk_far ?_ NB136_138.out _; refine blk_far ?_ NB136_138.out _; exact BK136.out) hb); have n4_ := Aside0.mk (blk_below (g := gb137) (o := .cells #[.int .i64 t126, .int .i64 t127, .int .i64 t128, .int .i64 t129, .int .i64 t130, .int .i64 t131, .int .i64 t132, .int .i64 t133, .int .i64 t134, .int .i64 t135] 26 (0, 0)) (by (with_reducible repeat (first | refine blk_drewN ?_ _ | refine blk_drew ?_ | refine blk_alloc ?_ _)); refine blk_far ?_ NB137_138.out _; refine blk_far ?_ NB137_138.out _; exact BK137.out) hb); have n5_ := Aside0.mk (blk_below (g := gb138) (o := .cells #[.int .i64 a0_0, .int .i64 a0_1, .int .i64 0, .int .i64 1, .int .i64 a0_4, .int .i64 a0_5, .int .i64 a0_6, .int .i64 a0_7, .int .i64 a0_8, .int .i64 a0_9] 26 (0, 0)) (by (with_reducible repeat (first | refine blk_drewN ?_ _ | refine blk_drew ?_ | refine blk_alloc ?_ _)); refine blk_put (cs := #[.int .i64 a0_0, .int .i64 a0_1, .int .i64 0, .int .i64 a0_3, .int .i64 a0_4, .int .i64 a0_5, .int .i64 a0_6, .int .i64 a0_7, .int .i64 a0_8, .int .i64 a0_9]) ?_ 3 _ rfl; refine blk_put (cs := #[.int .i64 a0_0, .int .i64 a0_1, .int .i64 1, .int .i64 a0_3, .int .i64 a0_4, .int .i64 a0_5, .int .i64 a0_6, .int .i64 a0_7, .int .i64 a0_8, .int .i64 a0_9]) ?_ 2 _ rfl; exact BK138.out) hb); have n6_ := Aside0.mk (blk_below (g := gb149) (o := .cells #[.int .i64 t139, .int .i64 t140, .int .i64 t141, .int .i64 t142, .int .i64 t143, .int .i64 t144, .int .i64 t145, .int .i64 t146, .int .i64 t147, .int .i64 t148] 26 (0, 0)) (by (with_reducible repeat (first | refine blk_drewN ?_ _ | refine blk_drew ?_ | refine blk_alloc ?_ _)); refine blk_far ?_ NB149_138.out _; refine blk_far ?_ NB149_138.out _; exact BK149.out) hb); have n7_ := Aside0.mk (below_step (by repeat (first | (with_reducible first | exact HB.out | apply below_alloc | apply pw_below_drewN | apply below_drew1 | refine below_set ?_ GE113.out | refine below_set ?_ GE114.out | refine below_set ?_ GE115.out | refine below_set ?_ GE136.out | refine below_set ?_ GE137.out | refine below_set ?_ GE138.out | refine below_set ?_ GE149.out) | exact HB.out)) hb); clear BK113; clear BK114; clear BK115; clear BK136; clear BK137; clear BK138; clear BK149; clear HB; have BK113 := n0_; have BK114 := n1_; have BK115 := n2_; have BK136 := n3_; have BK137 := n4_; have BK138 := n5_; have BK149 := n6_; have HB := n7_; clear n0_ n1_ n2_ n3_ n4_ n5_ n6_ n7_; (try clear hb); (try clear hb2); (try clear hk); (try clear hi)) | ((with_reducible refine gate_dst (N := 9) rfl ?_); refine box_event ?hg (N := 9) ?hd (cs := #[.int .i64 0, .int .i64 0, .int .i64 0, .int .i64 0, .int .i64 0, .int .i64 0, .int .i64 0, .int .i64 0, .int .i64 0, .int .i64 0]) (t := 26) ?hr ?_; (case hd => rfl); (case hg => rfl); (case hr => first | (go_simp; done) | (go_simp; rfl)); intro gb160 hg w97 hbox hb; have n0_ := blkB_ hb BK113; have n1_ := blkB_ hb BK114; have n2_ := blkB_ hb BK115; have n3_ := blkB_ hb BK136; have n4_ := blkB_ hb BK137; have n5_ := blkB_ hb BK138; have n6_ := blkB_ hb BK149; have n7_ := Aside0.mk (below_step (by repeat (first | (with_reducible first | exact HB.out | apply below_alloc | apply pw_below_drewN | apply below_drew1 | refine below_set ?_ GE113.out | refine below_set ?_ GE114.out | refine below_set ?_ GE115.out | refine below_set ?_ GE136.out | refine below_set ?_ GE137.out | refine below_set ?_ GE138.out | refine below_set ?_ GE149.out) | exact HB.out)) hb); have n8_ := Aside0.mk (hbox); have n9_ := Aside0.mk ((by rw [hg]; exact (below_size (by repeat (first | (with_reducible first | exact HB.out | apply below_alloc | apply pw_below_drewN | apply below_drew1 | refine below_set ?_ GE113.out | refine below_set ?_ GE114.out | refine below_set ?_ GE115.out | refine below_set ?_ GE136.out | refine below_set ?_ GE137.out | refine below_set ?_ GE138.out | refine below_set ?_ GE149.out) | exact HB.out))) : w.heap.size ≤ gb160)); have n10_ := Aside0.mk ((by rw [hg]; exact (below_size (by repeat (first | (with_reducible first | exact HB.out | apply below_alloc | apply pw_below_drewN | apply below_drew1 | refine below_set ?_ GE113.out | refine below_set ?_ GE114.out | refine below_set ?_ GE115.out | refine below_set ?_ GE136.out | refine below_set ?_ GE137.out | refine below_set ?_ GE138.out | refine below_set ?_ GE149.out) | exact HB.out))) : w.heap.size ≤ gb160)); have n11_ := neL_ hg BK113; have n12_ := neG_ hg BK113; have n13_ := neL_ hg BK114; have n14_ := neG_ hg BK114; have n15_ := neL_ hg BK115; have n16_ := neG_ hg BK115; have n17_ := neL_ hg BK136; have n18_ := neG_ hg BK136; have n19_ := neL_ hg BK137; have n20_ := neG_ hg BK137; have n21_ := neL_ hg BK138; have n22_ := neG_ hg BK138; have n23_ := neL_ hg BK149; have n24_ := neG_ hg BK149; clear BK113; clear BK114; clear BK115; clear BK136; clear BK137; clear BK138; clear BK149; clear HB; have BK113 := n0_; have BK114 := n1_; have BK115 := n2_; have BK136 := n3_; have BK137 := n4_; have BK138 := n5_; have BK149 := n6_; have HB := n7_; have BK160 := n8_; have GW160 := n9_; have GE160 := n10_; have NB113_160 := n11_; have NB160_113 := n12_; have NB114_160 := n13_; have NB160_114 := n14_; have NB115_160 := n15_; have NB160_115 := n16_; have NB136_160 := n17_; have NB160_136 := n18_; have NB137_160 := n19_; have NB160_137 := n20_; have NB138_160 := n21_; have NB160_138 := n22_; have NB149_160 := n23_; have NB160_149 := n24_; clear n0_ n1_ n2_ n3_ n4_ n5_ n6_ n7_ n8_ n9_ n10_ n11_ n12_ n13_ n14_ n15_ n16_ n17_ n18_ n19_ n20_ n21_ n22_ n23_ n24_; clear hb hbox hg; have hnb98 := NB160_113.out; have hnc98 := NB113_160.out; have hnb99 := NB160_114.out; have hnc99 := NB114_160.out; have hnb100 := NB160_115.out; have hnc100 := NB115_160.out; have hnb101 := NB160_136.out; have hnc101 := NB136_160.out; have hnb102 := NB160_137.out; have hnc102 := NB137_160.out; have hnb103 := NB160_138.out; have hnc103 := NB138_160.out; have hnb104 := NB160_149.out; have hnc104 := NB149_160.out; have hcz105_0 : w97.cell? ⟨gb160, 0, none⟩ = some (.int .i64 0) := (blk_cell BK160.out 0).trans rfl; have hcz105_1 : w97.cell? ⟨gb160, 1, none⟩ = some (.int .i64 0) := (blk_cell BK160.out 1).trans rfl; have hcz105_2 : w97.cell? ⟨gb160, 2, none⟩ = some (.int .i64 0) := (blk_cell BK160.out 2).trans rfl; have hcz105_3 : w97.cell? ⟨gb160, 3, none⟩ = some (.int .i64 0) := (blk_cell BK160.out 3).trans rfl; have hcz105_4 : w97.cell? ⟨gb160, 4, none⟩ = some (.int .i64 0) := (blk_cell BK160.out 4).trans rfl; have hcz105_5 : w97.cell? ⟨gb160, 5, none⟩ = some (.int .i64 0) := (blk_cell BK160.out 5).trans rfl; have hcz105_6 : w97.cell? ⟨gb160, 6, none⟩ = some (.int .i64 0) := (blk_cell BK160.out 6).trans rfl; have hcz105_7 : w97.cell? ⟨gb160, 7, none⟩ = some (.int .i64 0) := (blk_cell BK160.out 7).trans rfl; have hcz105_8 : w97.cell? ⟨gb160, 8, none⟩ = some (.int .i64 0) := (blk_cell BK160.out 8).trans rfl; have hcz105_9 : w97.cell? ⟨gb160, 9, none⟩ = some (.int .i64 0) := (blk_cell BK160.out 9).trans rfl; have hfz105_0 := blk_frozen BK160.out 0; have hfz105_1 := blk_frozen BK160.out 1; have hfz105_2 := blk_frozen BK160.out 2; have hfz105_3 := blk_frozen BK160.out 3; have hfz105_4 := blk_frozen BK160.out 4; have hfz105_5 := blk_frozen BK160.out 5; have hfz105_6 := blk_frozen BK160.out 6; have hfz105_7 := blk_frozen BK160.out 7; have hfz105_8 := blk_frozen BK160.out 8; have hfz105_9 := blk_frozen BK160.out 9) | ((with_reducible refine gate_store (t := 26) (p := 9) rfl ?_); refine store_event (t := 26) (p := 9) (v := ?vo_w106) (w1 := ((((((((((w97.setCell ⟨gb160, 0, none⟩ (.int .i64 t150)).setCell ⟨gb160, 1, none⟩ (.int .i64 t151)).setCell ⟨gb160, 2, none⟩ (.int .i64 t152)).setCell ⟨gb160, 3, none⟩ (.int .i64 t153)).setCell ⟨gb160, 4, none⟩ (.int .i64 t154)).setCell ⟨gb160, 5, none⟩ (.int .i64 t155)).setCell ⟨gb160, 6, none⟩ (.int .i64 t156)).setCell ⟨gb160, 7, none⟩ (.int .i64 t157)).setCell ⟨gb160, 8, none⟩ (.int .i64 t158)).setCell ⟨gb160, 9, none⟩ (.int .i64 t159))) ?hg ?ho ?hn ?hr ?_; (case ho => rfl); (case hg => rfl); (case hn => rfl); (case hr => first | (go_simp; done) | (go_simp; rfl)); intro w106 hw; have n0_ : Aside0 (w106.heap[gb113]? = some (.cells #[.int .i64 a0_0, .int .i64 a0_1, .int .i64 a0_2, .int .i64 a0_3, .int .i64 a0_4, .int .i64 a0_5, .int .i64 a0_6, .int .i64 a0_7, .int .i64 a0_8, .int .i64 a0_9] 26 (0, 0))) := ⟨(by rw [hw]; exact (by (with_reducible repeat (first | refine blk_drewN ?_ _ | refine blk_drew ?_ | refine blk_alloc ?_ _)); refine blk_far10_ ?_ NB113_160.out; exact BK113.out))⟩; have n1_ : Aside0 (w106.heap[gb114]? = some (.cells #[.int .i64 a0_0, .int .i64 1, .int .i64 a0_2, .int .i64 a0_3, .int .i64 a0_4, .int .i64 a0_5, .int .i64 a0_6, .int .i64 a0_7, .int .i64 a0_8, .int .i64 a0_9] 26 (0, 0))) := ⟨(by rw [hw]; exact (by (with_reducible repeat (first | refine blk_drewN ?_ _ | refine blk_drew ?_ | refine blk_alloc ?_ _)); refine blk_far10_ ?_ NB114_160.out; exact BK114.out))⟩; have n2_ : Aside0 (w106.heap[gb115]? = some (.cells #[.int .i64 a0_0, .int .i64 1, .int .i64 a0_2, .int .i64 a0_3, .int .i64 a0_4, .int .i64 a0_5, .int .i64 a0_6, .int .i64 a0_7, .int .i64 a0_8, .int .i64 a0_9] 26 (0, 0))) := ⟨(by rw [hw]; exact (by (with_reducible repeat (first | refine blk_drewN ?_ _ | refine blk_drew ?_ | refine blk_alloc ?_ _)); refine blk_far10_ ?_ NB115_160.out; exact BK115.out))⟩; have n3_ : Aside0 (w106.heap[gb136]? = some (.cells #[.int .i64 t116, .int .i64 t117, .int .i64 t118, .int .i64 t119, .int .i64 t120, .int .i64 t121, .int .i64 t122, .int .i64 t123, .int .i64 t124, .int .i64 t125] 26 (0, 0))) := ⟨(by rw [hw]; exact (by (with_reducible repeat (first | refine blk_drewN ?_ _ | refine blk_drew ?_ | refine blk_alloc ?_ _)); refine blk_far10_ ?_ NB136_160.out; exact BK136.out))⟩; have n4_ : Aside0 (w106.heap[gb137]? = some (.cells #[.int .i64 t126, .int .i64 t127, .int .i64 t128, .int .i64 t129, .int .i64 t130, .int .i64 t131, .int .i64 t132, .int .i64 t133, .int .i64 t134, .int .i64 t135] 26 (0, 0))) := ⟨(by rw [hw]; exact (by (with_reducible repeat (first | refine blk_drewN ?_ _ | refine blk_drew ?_ | refine blk_alloc ?_ _)); refine blk_far10_ ?_ NB137_160.out; exact BK137.out))⟩; have n5_ : Aside0 (w106.heap[gb138]? = some (.cells #[.int .i64 a0_0, .int .i64 a0_1, .int .i64 0, .int .i64 1, .int .i64 a0_4, .int .i64 a0_5, .int .i64 a0_6, .int .i64 a0_7, .int .i64 a0_8, .int .i64 a0_9] 26 (0, 0))) := ⟨(by rw [hw]; exact (by (with_reducible repeat (first | refine blk_drewN ?_ _ | refine blk_drew ?_ | refine blk_alloc ?_ _)); refine blk_far10_ ?_ NB138_160.out; exact BK138.out))⟩; have n6_ : Aside0 (w106.heap[gb149]? = some (.cells #[.int .i64 t139, .int .i64 t140, .int .i64 t141, .int .i64 t142, .int .i64 t143, .int .i64 t144, .int .i64 t145, .int .i64 t146, .int .i64 t147, .int .i64 t148] 26 (0, 0))) := ⟨(by rw [hw]; exact (by (with_reducible repeat (first | refine blk_drewN ?_ _ | refine blk_drew ?_ | refine blk_alloc ?_ _)); refine blk_far10_ ?_ NB149_160.out; exact BK149.out))⟩; have n7_ : Aside0 (w106.heap[gb160]? = some (.cells #[.int .i64 t150, .int .i64 t151, .int .i64 t152, .int .i64 t153, .int .i64 t154, .int .i64 t155, .int .i64 t156, .int .i64 t157, .int .i64 t158, .int .i64 t159] 26 (0, 0))) := ⟨(by rw [hw]; exact (by (with_reducible repeat (first | refine blk_drewN ?_ _ | refine blk_drew ?_ | refine blk_alloc ?_ _)); apply blk_fill10_; exact BK160.out))⟩; have n8_ : Aside0 (Below w.heap.size w w106) := ⟨(by rw [hw]; exact (by repeat (first | (with_reducible first | exact HB.out | apply below_alloc | apply pw_below_drewN | apply below_drew1 | refine below_set ?_ GE113.out | refine below_set ?_ GE114.out | refine below_set ?_ GE115.out | refine below_set ?_ GE136.out | refine below_set ?_ GE137.out | refine below_set ?_ GE138.out | refine below_set ?_ GE149.out | refine below_set ?_ GE160.out) | exact HB.out)))⟩; clear hw; clear BK113; clear BK114; clear BK115; clear BK136; clear BK137; clear BK138; clear BK149; clear BK160; clear HB; have BK113 := n0_; have BK114 := n1_; have BK115 := n2_; have BK136 := n3_; have BK137 := n4_; have BK138 := n5_; have BK149 := n6_; have BK160 := n7_; have HB := n8_; clear n0_ n1_ n2_ n3_ n4_ n5_ n6_ n7_ n8_; have hnb107 := NB136_114.out; have hnc107 := NB114_136.out; have hnb108 := NB136_115.out; have hnc108 := NB115_136.out; have hnb109 := NB136_137.out; have hnc109 := NB137_136.out; have hcz110_0 : w106.cell? ⟨gb136, 0, none⟩ = some (.int .i64 t116) := (blk_cell BK136.out 0).trans rfl; have hcz110_1 : w106.cell? ⟨gb136, 1, none⟩ = some (.int .i64 t117) := (blk_cell BK136.out 1).trans rfl; have hcz110_2 : w106.cell? ⟨gb136, 2, none⟩ = some (.int .i64 t118) := (blk_cell BK136.out 2).trans rfl; have hcz110_3 : w106.cell? ⟨gb136, 3, none⟩ = some (.int .i64 t119) := (blk_cell BK136.out 3).trans rfl; have hcz110_4 : w106.cell? ⟨gb136, 4, none⟩ = some (.int .i64 t120) := (blk_cell BK136.out 4).trans rfl; have hcz110_5 : w106.cell? ⟨gb136, 5, none⟩ = some (.int .i64 t121) := (blk_cell BK136.out 5).trans rfl; have hcz110_6 : w106.cell? ⟨gb136, 6, none⟩ = some (.int .i64 t122) := (blk_cell BK136.out 6).trans rfl; have hcz110_7 : w106.cell? ⟨gb136, 7, none⟩ = some (.int .i64 t123) := (blk_cell BK136.out 7).trans rfl; have hcz110_8 : w106.cell? ⟨gb136, 8, none⟩ = some (.int .i64 t124) := (blk_cell BK136.out 8).trans rfl; have hcz110_9 : w106.cell? ⟨gb136, 9, none⟩ = some (.int .i64 t125) := (blk_cell BK136.out 9).trans rfl; have hfz110_0 := blk_frozen BK136.out 0; have hfz110_1 := blk_frozen BK136.out 1; have hfz110_2 := blk_frozen BK136.out 2; have hfz110_3 := blk_frozen BK136.out 3; have hfz110_4 := blk_frozen BK136.out 4; have hfz110_5 := blk_frozen BK136.out 5; have hfz110_6 := blk_frozen BK136.out 6; have hfz110_7 := blk_frozen BK136.out 7; have hfz110_8 := blk_frozen BK136.out 8; have hfz110_9 := blk_frozen BK136.out 9; have hnb111 := NB137_114.out; have hnc111 := NB114_137.out; have hnb112 := NB137_115.out; have hnc112 := NB115_137.out; have hcz113_0 : w106.cell? ⟨gb137, 0, none⟩ = some (.int .i64 t126) := (blk_cell BK137.out 0).trans rfl; have hcz113_1 : w106.cell? ⟨gb137, 1, none⟩ = some (.int .i64 t127) := (blk_cell BK137.out 1).trans rfl; have hcz113_2 : w106.cell? ⟨gb137, 2, none⟩ = some (.int .i64 t128) := (blk_cell BK137.out 2).trans rfl; have hcz113_3 : w106.cell? ⟨gb137, 3, none⟩ = some (.int .i64 t129) := (blk_cell BK137.out 3).trans rfl; have hcz113_4 : w106.cell? ⟨gb137, 4, none⟩ = some (.int .i64 t130) := (blk_cell BK137.out 4).trans rfl; have hcz113_5 : w106.cell? ⟨gb137, 5, none⟩ = some (.int .i64 t131) := (blk_cell BK137.out 5).trans rfl; have hcz113_6 : w106.cell? ⟨gb137, 6, none⟩ = some (.int .i64 t132) := (blk_cell BK137.out 6).trans rfl; have hcz113_7 : w106.cell? ⟨gb137, 7, none⟩ = some (.int .i64 t133) := (blk_cell BK137.out 7).trans rfl; have hcz113_8 : w106.cell? ⟨gb137, 8, none⟩ = some (.int .i64 t134) := (blk_cell BK137.out 8).trans rfl; have hcz113_9 : w106.cell? ⟨gb137, 9, none⟩ = some (.int .i64 t135) := (blk_cell BK137.out 9).trans rfl; have hfz113_0 := blk_frozen BK137.out 0; have hfz113_1 := blk_frozen BK137.out 1; have hfz113_2 := blk_frozen BK137.out 2; have hfz113_3 := blk_frozen BK137.out 3; have hfz113_4 := blk_frozen BK137.out 4; have hfz113_5 := blk_frozen BK137.out 5; have hfz113_6 := blk_frozen BK137.out 6; have hfz113_7 := blk_frozen BK137.out 7; have hfz113_8 := blk_frozen BK137.out 8; have hfz113_9 := blk_frozen BK137.out 9; have hcz114_0 : w106.cell? ⟨gb113, 0, none⟩ = some (.int .i64 a0_0) := (blk_cell BK113.out 0).trans rfl; have hcz114_1 : w106.cell? ⟨gb113, 1, none⟩ = some (.int .i64 a0_1) := (blk_cell BK113.out 1).trans rfl; have hcz114_2 : w106.cell? ⟨gb113, 2, none⟩ = some (.int .i64 a0_2) := (blk_cell BK113.out 2).trans rfl; have hcz114_3 : w106.cell? ⟨gb113, 3, none⟩ = some (.int .i64 a0_3) := (blk_cell BK113.out 3).trans rfl; have hcz114_4 : w106.cell? ⟨gb113, 4, none⟩ = some (.int .i64 a0_4) := (blk_cell BK113.out 4).trans rfl; have hcz114_5 : w106.cell? ⟨gb113, 5, none⟩ = some (.int .i64 a0_5) := (blk_cell BK113.out 5).trans rfl; have hcz114_6 : w106.cell? ⟨gb113, 6, none⟩ = some (.int .i64 a0_6) := (blk_cell BK113.out 6).trans rfl; have hcz114_7 : w106.cell? ⟨gb113, 7, none⟩ = some (.int .i64 a0_7) := (blk_cell BK113.out 7).trans rfl; have hcz114_8 : w106.cell? ⟨gb113, 8, none⟩ = some (.int .i64 a0_8) := (blk_cell BK113.out 8).trans rfl; have hcz114_9 : w106.cell? ⟨gb113, 9, none⟩ = some (.int .i64 a0_9) := (blk_cell BK113.out 9).trans rfl; have hfz114_0 := blk_frozen BK113.out 0; have hfz114_1 := blk_frozen BK113.out 1; have hfz114_2 := blk_frozen BK113.out 2; have hfz114_3 := blk_frozen BK113.out 3; have hfz114_4 := blk_frozen BK113.out 4; have hfz114_5 := blk_frozen BK113.out 5; have hfz114_6 := blk_frozen BK113.out 6; have hfz114_7 := blk_frozen BK113.out 7; have hfz114_8 := blk_frozen BK113.out 8; have hfz114_9 := blk_frozen BK113.out 9; have hcz115_0 : w106.cell? ⟨gb149, 0, none⟩ = some (.int .i64 t139) := (blk_cell BK149.out 0).trans rfl; have hcz115_1 : w106.cell? ⟨gb149, 1, none⟩ = some (.int .i64 t140) := (blk_cell BK149.out 1).trans rfl; have hcz115_2 : w106.cell? ⟨gb149, 2, none⟩ = some (.int .i64 t141) := (blk_cell BK149.out 2).trans rfl; have hcz115_3 : w106.cell? ⟨gb149, 3, none⟩ = some (.int .i64 t142) := (blk_cell BK149.out 3).trans rfl; have hcz115_4 : w106.cell? ⟨gb149, 4, none⟩ = some (.int .i64 t143) := (blk_cell BK149.out 4).trans rfl; have hcz115_5 : w106.cell? ⟨gb149, 5, none⟩ = some (.int .i64 t144) := (blk_cell BK149.out 5).trans rfl; have hcz115_6 : w106.cell? ⟨gb149, 6, none⟩ = some (.int .i64 t145) := (blk_cell BK149.out 6).trans rfl; have hcz115_7 : w106.cell? ⟨gb149, 7, none⟩ = some (.int .i64 t146) := (blk_cell BK149.out 7).trans rfl; have hcz115_8 : w106.cell? ⟨gb149, 8, none⟩ = some (.int .i64 t147) := (blk_cell BK149.out 8).trans rfl; have hcz115_9 : w106.cell? ⟨gb149, 9, none⟩ = some (.int .i64 t148) := (blk_cell BK149.out 9).trans rfl; have hfz115_0 := blk_frozen BK149.out 0; have hfz115_1 := blk_frozen BK149.out 1; have hfz115_2 := blk_frozen BK149.out 2; have hfz115_3 := blk_frozen BK149.out 3; have hfz115_4 := blk_frozen BK149.out 4; have hfz115_5 := blk_frozen BK149.out 5; have hfz115_6 := blk_frozen BK149.out 6; have hfz115_7 := blk_frozen BK149.out 7; have hfz115_8 := blk_frozen BK149.out 8; have hfz115_9 := blk_frozen BK149.out 9; have hcz116_0 : w106.cell? ⟨gb160, 0, none⟩ = some (.int .i64 t150) := (blk_cell BK160.out 0).trans rfl; have hcz116_1 : w106.cell? ⟨gb160, 1, none⟩ = some (.int .i64 t151) := (blk_cell BK160.out 1).trans rfl; have hcz116_2 : w106.cell? ⟨gb160, 2, none⟩ = some (.int .i64 t152) := (blk_cell BK160.out 2).trans rfl; have hcz116_3 : w106.cell? ⟨gb160, 3, none⟩ = some (.int .i64 t153) := (blk_cell BK160.out 3).trans rfl; have hcz116_4 : w106.cell? ⟨gb160, 4, none⟩ = some (.int .i64 t154) := (blk_cell BK160.out 4).trans rfl; have hcz116_5 : w106.cell? ⟨gb160, 5, none⟩ = some (.int .i64 t155) := (blk_cell BK160.out 5).trans rfl; have hcz116_6 : w106.cell? ⟨gb160, 6, none⟩ = some (.int .i64 t156) := (blk_cell BK160.out 6).trans rfl; have hcz116_7 : w106.cell? ⟨gb160, 7, none⟩ = some (.int .i64 t157) := (blk_cell BK160.out 7).trans rfl; have hcz116_8 : w106.cell? ⟨gb160, 8, none⟩ = some (.int .i64 t158) := (blk_cell BK160.out 8).trans rfl; have hcz116_9 : w106.cell? ⟨gb160, 9, none⟩ = some (.int .i64 t159) := (blk_cell BK160.out 9).trans rfl; have hfz116_0 := blk_frozen BK160.out 0; have hfz116_1 := blk_frozen BK160.out 1; have hfz116_2 := blk_frozen BK160.out 2; have hfz116_3 := blk_frozen BK160.out 3; have hfz116_4 := blk_frozen BK160.out 4; have hfz116_5 := blk_frozen BK160.out 5; have hfz116_6 := blk_frozen BK160.out 6; have hfz116_7 := blk_frozen BK160.out 7; have hfz116_8 := blk_frozen BK160.out 8; have hfz116_9 := blk_frozen BK160.out 9) | (go_at_call 9; (with_reducible refine (ladderbacklaw09_awake.calls  t161 _ A14.out).mono ?_); rintro e w117 ⟨rfl, hb⟩; have n0_ := blkB_ hb BK113; have n1_ := blkB_ hb BK114; have n2_ := blkB_ hb BK115; have n3_ := blkB_ hb BK136; have n4_ := blkB_ hb BK137; have n5_ := blkB_ hb BK138; have n6_ := blkB_ hb BK149; have n7_ := blkB_ hb BK160; have n8_ := Aside0.mk (below_step (by repeat (first | (with_reducible first | exact HB.out | apply below_alloc | apply pw_below_drewN | apply below_drew1 | refine below_set ?_ GE113.out | refine below_set ?_ GE114.out | refine below_set ?_ GE115.out | refine below_set ?_ GE136.out | refine below_set ?_ GE137.out | refine below_set ?_ GE138.out | refine below_set ?_ GE149.out | refine below_set ?_ GE160.out) | exact HB.out)) hb); clear BK113; clear BK114; clear BK115; clear BK136; clear BK137; clear BK138; clear BK149; clear BK160; clear HB; have BK113 := n0_; have BK114 := n1_; have BK115 := n2_; have BK136 := n3_; have BK137 := n4_; have BK138 := n5_; have BK149 := n6_; have BK160 := n7_; have HB := n8_; clear n0_ n1_ n2_ n3_ n4_ n5_ n6_ n7_ n8_; (try clear hb); (try clear hb2); (try clear hk); (try clear hi)))
         go_ret
         exact ⟨by first | rfl | (simp [errW_none, errW_some] <;> rfl) | (simp [*, errW_none, errW_some] <;> rfl), by repeat (first | (with_reducible first | exact HB.out | apply below_alloc | apply pw_below_drewN | apply below_drew1 | refine below_set ?_ GE113.out | refine below_set ?_ GE114.out | refine below_set ?_ GE115.out | refine below_set ?_ GE136.out | refine below_set ?_ GE137.out | refine below_set ?_ GE138.out | refine below_set ?_ GE149.out | refine below_set ?_ GE160.out) | exact HB.out)⟩
        ·
         rw [if_neg c13] at H
         have c13b0 : ((t129 == 1) == (decide (a0_2 ≤ 0))) = false := by simpa using c13
         (try (have c13b1 : decide ((t129 == 1) = (decide (a0_2 ≤ 0))) = false := by simpa using c13))
         (try (have c13b2 : ((t129 == 1) == (decide (a0_2 ≤ 0))) = false := by simpa using c13))
         (try (have c13b3 : ¬ ((t129 == 1) = (decide (a0_2 ≤ 0))) := by simpa using c13))
         clear c13
         exact absurd (Option.some.inj H) (by rw [HRT.out]; decide)
       ·
        rw [if_neg c12] at H
        have c12b0 : ((t119 == 1) == (decide (a0_2 ≤ 0))) = false := by simpa using c12
        (try (have c12b1 : decide ((t119 == 1) = (decide (a0_2 ≤ 0))) = false := by simpa using c12))
        (try (have c12b2 : ((t119 == 1) == (decide (a0_2 ≤ 0))) = false := by simpa using c12))
        (try (have c12b3 : ¬ ((t119 == 1) = (decide (a0_2 ≤ 0))) := by simpa using c12))
        clear c12
        exact absurd (Option.some.inj H) (by rw [HRT.out]; decide)
      ·
       rw [if_neg c11] at H
       have c11b0 : (t145 == 1) = false := beq_eq_false_iff_ne.mpr c11
       have c11b1 : (t145 != 1) = true := bne_iff_ne.mpr c11
       exact absurd (Option.some.inj H) (by rw [HRT.out]; decide)
     ·
      rw [if_neg c10] at H
      have c10b0 : (t155 == 1) = false := beq_eq_false_iff_ne.mpr c10
      have c10b1 : (t155 != 1) = true := bne_iff_ne.mpr c10
      exact absurd (Option.some.inj H) (by rw [HRT.out]; decide)
    ·
     rw [if_neg c9] at H
     have c9b0 : (t157 == a0_4) = false := beq_eq_false_iff_ne.mpr c9
     have c9b1 : (t157 != a0_4) = true := bne_iff_ne.mpr c9
     exact absurd (Option.some.inj H) (by rw [HRT.out]; decide)
   ·
    rw [if_neg c8] at H
    have c8b0 : (t146 == 0) = false := beq_eq_false_iff_ne.mpr c8
    have c8b1 : (t146 != 0) = true := bne_iff_ne.mpr c8
    exact absurd (Option.some.inj H) (by rw [HRT.out]; decide)
  ·
   rw [if_neg c7] at H
   have c7b0 : (t130 == a0_2) = false := beq_eq_false_iff_ne.mpr c7
   have c7b1 : (t130 != a0_2) = true := bne_iff_ne.mpr c7
   exact absurd (Option.some.inj H) (by rw [HRT.out]; decide)
 ·
  rw [if_neg c6] at H
  have c6b0 : (t120 == 0) = false := beq_eq_false_iff_ne.mpr c6
  have c6b1 : (t120 != 0) = true := bne_iff_ne.mpr c6
  exact absurd (Option.some.inj H) (by rw [HRT.out]; decide)
/-- The pure statement of ladderbacklaw09_CountHolds. -/
def ladderbacklaw09_CountHolds.Pure : Prop := ∀ (y0 : S26), W26 y0 → ladderbacklaw09_CountHolds.f y0.f0.f0 y0.f0.f1 y0.f0.f2 y0.f0.f3 y0.f0.f4 y0.f0.f5 y0.f0.f6 y0.f0.f7 y0.f0.f8 y0.f0.f9 = some true

end Go.Proofs.Ythldpihpjekleaa.QCountHolds
