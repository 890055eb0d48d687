/- Functions proved by hand, in the printed texts' form: op.Shape, op.Word, op.Find, num.Print. The tables' cells are a premise that the row's own list gives. -/
import Derived.Test.YtgjnmoocgkpkiaaDoorOp
import Derived.Test.YtgjnmoocgkpkiaaDoorNumPrint
import Derived.Test.YtgjnmoocgkpkiaaDoorWWords
namespace Go.Proofs.YtgjnmoocgkpkiaaDoor
open Go.RowKit Go.Proofs.YtgjnmoocgkpkiaaDoorW.PrintWords
/-- What the law's tables hold. -/
def Laid (w : World) : Prop := OpTab w
theorem Laid.below {w w' : World} (h : Laid w) (hb : Below w.heap.size w w') : Laid w' := Tab.below h hb (Nat.le_refl _)
theorem Laid.drewN {w : World} {n : Nat} (h : Laid w) : Laid (w.drewN n) := h
theorem Laid.drew {w : World} (h : Laid w) : Laid w.drew := h
theorem Laid.alloc {w : World} {o : Obj} (h : Laid w) : Laid (w.alloc o) := Laid.below h ((Below.refl w.heap.size w).alloc (Nat.le_refl _) o)
def op_Shape.f (a0 : Int) : Option (Int × Int) := some ((opA a0, opB a0))
theorem op_Shape.calls (a0 : Int) (r1 : Int) (r2 : Int) (w : World) (h : op_Shape.f a0 = some (r1, r2)) (hL_ : Laid w := by repeat (first | exact hL_ | exact Laid.below hL_ HB.out | apply Laid.drewN | apply Laid.drew | apply Laid.alloc | (refine Laid.below hL_ ?_; repeat (first | (with_reducible first | exact HB.out | apply below_alloc | apply pw_below_drewN | apply below_drew1 | refine below_set ?_ (Aside0.out (by assumption))) | exact HB.out)))) :
    Calls Tryd.prog 22 #[.int .i64 a0] w fun e w' => e = .returned (.tuple #[.int .i64 r1, .int .i64 r2]) ∧ Drawn0 w w' := by
  have h2 := Option.some.inj h
  have h3 := op_Shape_any a0 w hL_
  obtain ⟨rfl, rfl⟩ := Prod.mk.inj h2
  refine h3.mono ?_
  rintro e w' ⟨rfl, hq⟩
  exact ⟨rfl, ⟨hq⟩⟩
def op_Word.f (a0 : Int) : Option (ByteArray) := some (opWd a0)
theorem op_Word.calls (a0 : Int) (r : ByteArray) (w : World) (h : op_Word.f a0 = some r) (hL_ : Laid w := by repeat (first | exact hL_ | exact Laid.below hL_ HB.out | apply Laid.drewN | apply Laid.drew | apply Laid.alloc | (refine Laid.below hL_ ?_; repeat (first | (with_reducible first | exact HB.out | apply below_alloc | apply pw_below_drewN | apply below_drew1 | refine below_set ?_ (Aside0.out (by assumption))) | exact HB.out)))) :
    Calls Tryd.prog 28 #[.int .i64 a0] w fun e w' => e = .returned (.string r) ∧ Drawn0 w w' := by
  have h2 := Option.some.inj h
  have h3 := op_Word_any a0 w hL_
  subst h2
  refine h3.mono ?_
  rintro e w' ⟨rfl, hq⟩
  exact ⟨rfl, hq ▸ Drawn0.refl _⟩
def op_Find.f (a0 : ByteArray) : Option (Int × Bool) := some (opFind a0)
theorem op_Find.calls (a0 : ByteArray) (r1 : Int) (r2 : Bool) (w : World) (h : op_Find.f a0 = some (r1, r2)) (hL_ : Laid w := by repeat (first | exact hL_ | exact Laid.below hL_ HB.out | apply Laid.drewN | apply Laid.drew | apply Laid.alloc | (refine Laid.below hL_ ?_; repeat (first | (with_reducible first | exact HB.out | apply below_alloc | apply pw_below_drewN | apply below_drew1 | refine below_set ?_ (Aside0.out (by assumption))) | exact HB.out)))) :
    Calls Tryd.prog 25 #[.string a0] w fun e w' => e = .returned (.tuple #[.int .i64 r1, .bool r2]) ∧ Drawn0 w w' := by
  have h2 := Option.some.inj h
  have h3 := op_Find_any a0 w hL_
  rw [h2] at h3
  refine h3.mono ?_
  rintro e w' ⟨rfl, hq⟩
  exact ⟨rfl, hq ▸ Drawn0.refl _⟩
def num_Print.f (a0 : Int) : Option (ByteArray) := if (Lit.int .i64 a0).wf = true then some (printS a0) else none
theorem num_Print.calls (a0 : Int) (r : ByteArray) (w : World) (h : num_Print.f a0 = some r) :
    Calls Tryd.prog 109 #[.int .i64 a0] w fun e w' => e = .returned (.string r) ∧ Below w.heap.size w w' := by
  unfold num_Print.f at h
  split at h
  · rename_i hw
    have h2 := Option.some.inj h
    have h3 := num_Print_any a0 hw w
    subst h2
    exact h3
  · cases h
end Go.Proofs.YtgjnmoocgkpkiaaDoor
