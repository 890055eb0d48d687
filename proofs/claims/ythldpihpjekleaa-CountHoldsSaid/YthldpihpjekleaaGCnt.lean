/- Functions proved by hand, in the printed texts' form: count.Step. The tables' cells are a premise that the row's own list gives. -/
import Derived.Test.YthldpihpjekleaaCountB
import Derived.Test.YthldpihpjekleaaWWords
namespace Go.Proofs.Ythldpihpjekleaa
open Go.RowKit Go.Proofs.YthldpihpjekleaaW.PrintWords
set_option linter.unusedVariables false
/-- What the law's tables hold. -/
def Laid (w : World) : Prop := True
theorem Laid.below {w w' : World} (h : Laid w) (hb : Below w.heap.size w w') : Laid w' := trivial
theorem Laid.drewN {w : World} {n : Nat} (h : Laid w) : Laid (w.drewN n) := h
theorem Laid.drew {w : World} (h : Laid w) : Laid w.drew := h
theorem Laid.alloc {w : World} {o : Obj} (h : Laid w) : Laid (w.alloc o) := Laid.below h ((Below.refl w.heap.size w).alloc (Nat.le_refl _) o)
/-- An instance's ten fields, in line. -/
def In.tup (x : In) : Int × Int × Int × Int × Int × Int × Int × Int × Int × Int := (x.a0, x.a1, x.a2, x.a3, x.a4, x.a5, x.a6, x.a7, x.a8, x.a9)
def count_Step.f (a0 a1_0 a1_1 a1_2 a1_3 a1_4 a1_5 a1_6 a1_7 a1_8 a1_9 : Int) : Option (Int × Int × Int × Int × Int × Int × Int × Int × Int × Int) := some (countS a0 ⟨a1_0, a1_1, a1_2, a1_3, a1_4, a1_5, a1_6, a1_7, a1_8, a1_9⟩).tup
theorem count_Step.calls (a0 a1_0 a1_1 a1_2 a1_3 a1_4 a1_5 a1_6 a1_7 a1_8 a1_9 r1 r2 r3 r4 r5 r6 r7 r8 r9 r10 : Int) (w : World) (h : count_Step.f a0 a1_0 a1_1 a1_2 a1_3 a1_4 a1_5 a1_6 a1_7 a1_8 a1_9 = some (r1, r2, r3, r4, r5, r6, r7, r8, r9, r10)) :
    Calls Try.prog 10 #[.int .i64 a0, .agg #[.int .i64 a1_0, .int .i64 a1_1, .int .i64 a1_2, .int .i64 a1_3, .int .i64 a1_4, .int .i64 a1_5, .int .i64 a1_6, .int .i64 a1_7, .int .i64 a1_8, .int .i64 a1_9]] w fun e w' => e = .returned (.agg #[.int .i64 r1, .int .i64 r2, .int .i64 r3, .int .i64 r4, .int .i64 r5, .int .i64 r6, .int .i64 r7, .int .i64 r8, .int .i64 r9, .int .i64 r10]) ∧ Below w.heap.size w w' := by
  have h2 := Option.some.inj h
  simp only [In.tup, Prod.mk.injEq] at h2
  obtain ⟨rfl, rfl, rfl, rfl, rfl, rfl, rfl, rfl, rfl, rfl⟩ := h2
  exact step_any a0 ⟨a1_0, a1_1, a1_2, a1_3, a1_4, a1_5, a1_6, a1_7, a1_8, a1_9⟩ w
end Go.Proofs.Ythldpihpjekleaa
