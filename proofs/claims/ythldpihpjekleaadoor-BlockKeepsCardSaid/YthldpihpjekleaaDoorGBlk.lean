/- Functions proved by hand, in the printed texts' form: timer.Step, count.Step, trig.Step, ladderbackref08.Step, ladderbackref09.Step, block.Field, block.Fields, block.Inputs, block.Name. The tables' cells are a premise that the row's own list gives. -/
import Derived.Test.YthldpihpjekleaaDoorTimerB
import Derived.Test.YthldpihpjekleaaDoorCountB
import Derived.Test.YthldpihpjekleaaDoorTrig
import Derived.Test.YthldpihpjekleaaDoorTimerG
import Derived.Test.YthldpihpjekleaaDoorCountC
import Derived.Test.YthldpihpjekleaaDoorBlockF
import Derived.Test.YthldpihpjekleaaDoorBlock
import Derived.Test.YthldpihpjekleaaDoorWWords
namespace Go.Proofs.YthldpihpjekleaaDoor
open Go.RowKit Go.Proofs.YthldpihpjekleaaDoorW.PrintWords
set_option linter.unusedVariables false
/-- What the law's tables hold. -/
def Laid (w : World) : Prop := BlockTab w
theorem Laid.below {w w' : World} (h : Laid w) (hb : Below w.heap.size w w') : Laid w' := Tab.below h hb (Nat.le_refl _)
theorem Laid.drewN {w : World} {n : Nat} (h : Laid w) : Laid (w.drewN n) := h
theorem Laid.drew {w : World} (h : Laid w) : Laid w.drew := h
theorem Laid.alloc {w : World} {o : Obj} (h : Laid w) : Laid (w.alloc o) := Laid.below h ((Below.refl w.heap.size w).alloc (Nat.le_refl _) o)
/-- An instance's ten fields, in line. -/
def In.tup (x : In) : Int × Int × Int × Int × Int × Int × Int × Int × Int × Int := (x.a0, x.a1, x.a2, x.a3, x.a4, x.a5, x.a6, x.a7, x.a8, x.a9)
def timer_Step.f (a0 a1_0 a1_1 a1_2 a1_3 a1_4 a1_5 a1_6 a1_7 a1_8 a1_9 a2 : Int) : Option (Int × Int × Int × Int × Int × Int × Int × Int × Int × Int) := some (timerS a0 ⟨a1_0, a1_1, a1_2, a1_3, a1_4, a1_5, a1_6, a1_7, a1_8, a1_9⟩ a2).tup
theorem timer_Step.calls (a0 a1_0 a1_1 a1_2 a1_3 a1_4 a1_5 a1_6 a1_7 a1_8 a1_9 a2 r1 r2 r3 r4 r5 r6 r7 r8 r9 r10 : Int) (w : World) (h : timer_Step.f a0 a1_0 a1_1 a1_2 a1_3 a1_4 a1_5 a1_6 a1_7 a1_8 a1_9 a2 = some (r1, r2, r3, r4, r5, r6, r7, r8, r9, r10)) :
    Calls Tryd.prog 40 #[.int .i64 a0, .agg #[.int .i64 a1_0, .int .i64 a1_1, .int .i64 a1_2, .int .i64 a1_3, .int .i64 a1_4, .int .i64 a1_5, .int .i64 a1_6, .int .i64 a1_7, .int .i64 a1_8, .int .i64 a1_9], .int .i64 a2] w fun e w' => e = .returned (.agg #[.int .i64 r1, .int .i64 r2, .int .i64 r3, .int .i64 r4, .int .i64 r5, .int .i64 r6, .int .i64 r7, .int .i64 r8, .int .i64 r9, .int .i64 r10]) ∧ Below w.heap.size w w' := by
  have h2 := Option.some.inj h
  simp only [In.tup, Prod.mk.injEq] at h2
  obtain ⟨rfl, rfl, rfl, rfl, rfl, rfl, rfl, rfl, rfl, rfl⟩ := h2
  exact tstep_any a0 ⟨a1_0, a1_1, a1_2, a1_3, a1_4, a1_5, a1_6, a1_7, a1_8, a1_9⟩ a2 w
def count_Step.f (a0 a1_0 a1_1 a1_2 a1_3 a1_4 a1_5 a1_6 a1_7 a1_8 a1_9 : Int) : Option (Int × Int × Int × Int × Int × Int × Int × Int × Int × Int) := some (countS a0 ⟨a1_0, a1_1, a1_2, a1_3, a1_4, a1_5, a1_6, a1_7, a1_8, a1_9⟩).tup
theorem count_Step.calls (a0 a1_0 a1_1 a1_2 a1_3 a1_4 a1_5 a1_6 a1_7 a1_8 a1_9 r1 r2 r3 r4 r5 r6 r7 r8 r9 r10 : Int) (w : World) (h : count_Step.f a0 a1_0 a1_1 a1_2 a1_3 a1_4 a1_5 a1_6 a1_7 a1_8 a1_9 = some (r1, r2, r3, r4, r5, r6, r7, r8, r9, r10)) :
    Calls Tryd.prog 42 #[.int .i64 a0, .agg #[.int .i64 a1_0, .int .i64 a1_1, .int .i64 a1_2, .int .i64 a1_3, .int .i64 a1_4, .int .i64 a1_5, .int .i64 a1_6, .int .i64 a1_7, .int .i64 a1_8, .int .i64 a1_9]] w fun e w' => e = .returned (.agg #[.int .i64 r1, .int .i64 r2, .int .i64 r3, .int .i64 r4, .int .i64 r5, .int .i64 r6, .int .i64 r7, .int .i64 r8, .int .i64 r9, .int .i64 r10]) ∧ Below w.heap.size w w' := by
  have h2 := Option.some.inj h
  simp only [In.tup, Prod.mk.injEq] at h2
  obtain ⟨rfl, rfl, rfl, rfl, rfl, rfl, rfl, rfl, rfl, rfl⟩ := h2
  exact step_any a0 ⟨a1_0, a1_1, a1_2, a1_3, a1_4, a1_5, a1_6, a1_7, a1_8, a1_9⟩ w
def trig_Step.f (a0 a1_0 a1_1 a1_2 a1_3 a1_4 a1_5 a1_6 a1_7 a1_8 a1_9 : Int) : Option (Int × Int × Int × Int × Int × Int × Int × Int × Int × Int) := some (trigS a0 ⟨a1_0, a1_1, a1_2, a1_3, a1_4, a1_5, a1_6, a1_7, a1_8, a1_9⟩).tup
theorem trig_Step.calls (a0 a1_0 a1_1 a1_2 a1_3 a1_4 a1_5 a1_6 a1_7 a1_8 a1_9 r1 r2 r3 r4 r5 r6 r7 r8 r9 r10 : Int) (w : World) (h : trig_Step.f a0 a1_0 a1_1 a1_2 a1_3 a1_4 a1_5 a1_6 a1_7 a1_8 a1_9 = some (r1, r2, r3, r4, r5, r6, r7, r8, r9, r10)) :
    Calls Tryd.prog 43 #[.int .i64 a0, .agg #[.int .i64 a1_0, .int .i64 a1_1, .int .i64 a1_2, .int .i64 a1_3, .int .i64 a1_4, .int .i64 a1_5, .int .i64 a1_6, .int .i64 a1_7, .int .i64 a1_8, .int .i64 a1_9]] w fun e w' => e = .returned (.agg #[.int .i64 r1, .int .i64 r2, .int .i64 r3, .int .i64 r4, .int .i64 r5, .int .i64 r6, .int .i64 r7, .int .i64 r8, .int .i64 r9, .int .i64 r10]) ∧ Below w.heap.size w w' := by
  have h2 := Option.some.inj h
  simp only [In.tup, Prod.mk.injEq] at h2
  obtain ⟨rfl, rfl, rfl, rfl, rfl, rfl, rfl, rfl, rfl, rfl⟩ := h2
  exact trig_Step_any a0 ⟨a1_0, a1_1, a1_2, a1_3, a1_4, a1_5, a1_6, a1_7, a1_8, a1_9⟩ w
def ladderbackref08_Step.f (a0 a1_0 a1_1 a1_2 a1_3 a1_4 a1_5 a1_6 a1_7 a1_8 a1_9 a2 : Int) : Option (Int × Int × Int × Int × Int × Int × Int × Int × Int × Int) := some (timerS a0 ⟨a1_0, a1_1, a1_2, a1_3, a1_4, a1_5, a1_6, a1_7, a1_8, a1_9⟩ a2).tup
theorem ladderbackref08_Step.calls (a0 a1_0 a1_1 a1_2 a1_3 a1_4 a1_5 a1_6 a1_7 a1_8 a1_9 a2 r1 r2 r3 r4 r5 r6 r7 r8 r9 r10 : Int) (w : World) (h : ladderbackref08_Step.f a0 a1_0 a1_1 a1_2 a1_3 a1_4 a1_5 a1_6 a1_7 a1_8 a1_9 a2 = some (r1, r2, r3, r4, r5, r6, r7, r8, r9, r10)) :
    Calls Tryd.prog 44 #[.int .i64 a0, .agg #[.int .i64 a1_0, .int .i64 a1_1, .int .i64 a1_2, .int .i64 a1_3, .int .i64 a1_4, .int .i64 a1_5, .int .i64 a1_6, .int .i64 a1_7, .int .i64 a1_8, .int .i64 a1_9], .int .i64 a2] w fun e w' => e = .returned (.agg #[.int .i64 r1, .int .i64 r2, .int .i64 r3, .int .i64 r4, .int .i64 r5, .int .i64 r6, .int .i64 r7, .int .i64 r8, .int .i64 r9, .int .i64 r10]) ∧ Below w.heap.size w w' := by
  have h2 := Option.some.inj h
  simp only [In.tup, Prod.mk.injEq] at h2
  obtain ⟨rfl, rfl, rfl, rfl, rfl, rfl, rfl, rfl, rfl, rfl⟩ := h2
  exact trstep_any a0 ⟨a1_0, a1_1, a1_2, a1_3, a1_4, a1_5, a1_6, a1_7, a1_8, a1_9⟩ a2 w
def ladderbackref09_Step.f (a0 a1_0 a1_1 a1_2 a1_3 a1_4 a1_5 a1_6 a1_7 a1_8 a1_9 : Int) : Option (Int × Int × Int × Int × Int × Int × Int × Int × Int × Int) := some (countS a0 ⟨a1_0, a1_1, a1_2, a1_3, a1_4, a1_5, a1_6, a1_7, a1_8, a1_9⟩).tup
theorem ladderbackref09_Step.calls (a0 a1_0 a1_1 a1_2 a1_3 a1_4 a1_5 a1_6 a1_7 a1_8 a1_9 r1 r2 r3 r4 r5 r6 r7 r8 r9 r10 : Int) (w : World) (h : ladderbackref09_Step.f a0 a1_0 a1_1 a1_2 a1_3 a1_4 a1_5 a1_6 a1_7 a1_8 a1_9 = some (r1, r2, r3, r4, r5, r6, r7, r8, r9, r10)) :
    Calls Tryd.prog 45 #[.int .i64 a0, .agg #[.int .i64 a1_0, .int .i64 a1_1, .int .i64 a1_2, .int .i64 a1_3, .int .i64 a1_4, .int .i64 a1_5, .int .i64 a1_6, .int .i64 a1_7, .int .i64 a1_8, .int .i64 a1_9]] w fun e w' => e = .returned (.agg #[.int .i64 r1, .int .i64 r2, .int .i64 r3, .int .i64 r4, .int .i64 r5, .int .i64 r6, .int .i64 r7, .int .i64 r8, .int .i64 r9, .int .i64 r10]) ∧ Below w.heap.size w w' := by
  have h2 := Option.some.inj h
  simp only [In.tup, Prod.mk.injEq] at h2
  obtain ⟨rfl, rfl, rfl, rfl, rfl, rfl, rfl, rfl, rfl, rfl⟩ := h2
  exact rstep_any a0 ⟨a1_0, a1_1, a1_2, a1_3, a1_4, a1_5, a1_6, a1_7, a1_8, a1_9⟩ w
def block_Field.f (a0 : Int) (a1 : Int) : Option (ByteArray × Int) := some (blkField a0 a1)
theorem block_Field.calls (a0 : Int) (a1 : Int) (r1 : ByteArray) (r2 : Int) (w : World) (h : block_Field.f a0 a1 = some (r1, r2)) (hL_ : Laid w := by repeat (first | exact hL_ | exact Laid.below hL_ HB.out | apply Laid.drewN | apply Laid.drew | apply Laid.alloc | (refine Laid.below hL_ ?_; repeat (first | (with_reducible first | exact HB.out | apply below_alloc | apply pw_below_drewN | apply below_drew1 | refine below_set ?_ (Aside0.out (by assumption))) | exact HB.out)))) :
    Calls Tryd.prog 34 #[.int .i64 a0, .int .i64 a1] w fun e w' => e = .returned (.tuple #[.string r1, .int .i64 r2]) ∧ Below w.heap.size w w' := by
  have h2 := Option.some.inj h
  have h3 := block_Field_any a0 a1 w hL_
  rw [h2] at h3
  exact h3
def block_Fields.f (a0 : Int) : Option (Int) := some (blkCnt a0)
theorem block_Fields.calls (a0 : Int) (r : Int) (w : World) (h : block_Fields.f a0 = some r) (hL_ : Laid w := by repeat (first | exact hL_ | exact Laid.below hL_ HB.out | apply Laid.drewN | apply Laid.drew | apply Laid.alloc | (refine Laid.below hL_ ?_; repeat (first | (with_reducible first | exact HB.out | apply below_alloc | apply pw_below_drewN | apply below_drew1 | refine below_set ?_ (Aside0.out (by assumption))) | exact HB.out)))) :
    Calls Tryd.prog 38 #[.int .i64 a0] w fun e w' => e = .returned (.int .i64 r) ∧ Below w.heap.size w w' := by
  have h2 := Option.some.inj h
  have h3 := block_Fields_any a0 w hL_
  subst h2
  exact h3
def block_Inputs.f (a0 : Int) : Option (Int) := some (blkIn a0)
theorem block_Inputs.calls (a0 : Int) (r : Int) (w : World) (h : block_Inputs.f a0 = some r) (hL_ : Laid w := by repeat (first | exact hL_ | exact Laid.below hL_ HB.out | apply Laid.drewN | apply Laid.drew | apply Laid.alloc | (refine Laid.below hL_ ?_; repeat (first | (with_reducible first | exact HB.out | apply below_alloc | apply pw_below_drewN | apply below_drew1 | refine below_set ?_ (Aside0.out (by assumption))) | exact HB.out)))) :
    Calls Tryd.prog 16 #[.int .i64 a0] w fun e w' => e = .returned (.int .i64 r) ∧ Below w.heap.size w w' := by
  have h2 := Option.some.inj h
  have h3 := block_Inputs_any a0 w hL_
  subst h2
  exact h3
def block_Name.f (a0 : Int) : Option (ByteArray) := some (blkName a0)
theorem block_Name.calls (a0 : Int) (r : ByteArray) (w : World) (h : block_Name.f a0 = some r) (hL_ : Laid w := by repeat (first | exact hL_ | exact Laid.below hL_ HB.out | apply Laid.drewN | apply Laid.drew | apply Laid.alloc | (refine Laid.below hL_ ?_; repeat (first | (with_reducible first | exact HB.out | apply below_alloc | apply pw_below_drewN | apply below_drew1 | refine below_set ?_ (Aside0.out (by assumption))) | exact HB.out)))) :
    Calls Tryd.prog 47 #[.int .i64 a0] w fun e w' => e = .returned (.string r) ∧ Below w.heap.size w w' := by
  have h2 := Option.some.inj h
  have h3 := block_Name_any a0 w hL_
  subst h2
  exact h3
end Go.Proofs.YthldpihpjekleaaDoor
