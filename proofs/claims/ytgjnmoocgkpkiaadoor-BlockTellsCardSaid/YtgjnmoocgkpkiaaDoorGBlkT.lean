/- Functions proved by hand, in the printed texts' form: block.Fields, block.Inputs, block.Name, block.Find, block.Field. The tables' cells are a premise that the row's own list gives. -/
import Derived.Test.YtgjnmoocgkpkiaaDoorBlock
import Derived.Test.YtgjnmoocgkpkiaaDoorBlockN
import Derived.Test.YtgjnmoocgkpkiaaDoorBlockF
import Derived.Test.YtgjnmoocgkpkiaaDoorWWords
namespace Go.Proofs.YtgjnmoocgkpkiaaDoor
open Go.RowKit Go.Proofs.YtgjnmoocgkpkiaaDoorW.PrintWords
/-- What the law's tables hold. -/
def Laid (w : World) : Prop := BlockTab w
theorem Laid.below {w w' : World} (h : Laid w) (hb : Below w.heap.size w w') : Laid w' := Tab.below h hb (Nat.le_refl _)
theorem Laid.drewN {w : World} {n : Nat} (h : Laid w) : Laid (w.drewN n) := h
theorem Laid.drew {w : World} (h : Laid w) : Laid w.drew := h
theorem Laid.alloc {w : World} {o : Obj} (h : Laid w) : Laid (w.alloc o) := Laid.below h ((Below.refl w.heap.size w).alloc (Nat.le_refl _) o)
def block_Fields.f (a0 : Int) : Option (Int) := some (blkCnt a0)
theorem block_Fields.calls (a0 : Int) (r : Int) (w : World) (h : block_Fields.f a0 = some r) (hL_ : Laid w := by repeat (first | exact hL_ | exact Laid.below hL_ HB.out | apply Laid.drewN | apply Laid.drew | apply Laid.alloc | (refine Laid.below hL_ ?_; repeat (first | (with_reducible first | exact HB.out | apply below_alloc | apply pw_below_drewN | apply below_drew1 | refine below_set ?_ (Aside0.out (by assumption))) | exact HB.out)))) :
    Calls Tryd.prog 12 #[.int .i64 a0] w fun e w' => e = .returned (.int .i64 r) ∧ Below w.heap.size w w' := by
  have h2 := Option.some.inj h
  have h3 := block_Fields_any a0 w hL_
  subst h2
  exact h3
def block_Inputs.f (a0 : Int) : Option (Int) := some (blkIn a0)
theorem block_Inputs.calls (a0 : Int) (r : Int) (w : World) (h : block_Inputs.f a0 = some r) (hL_ : Laid w := by repeat (first | exact hL_ | exact Laid.below hL_ HB.out | apply Laid.drewN | apply Laid.drew | apply Laid.alloc | (refine Laid.below hL_ ?_; repeat (first | (with_reducible first | exact HB.out | apply below_alloc | apply pw_below_drewN | apply below_drew1 | refine below_set ?_ (Aside0.out (by assumption))) | exact HB.out)))) :
    Calls Tryd.prog 13 #[.int .i64 a0] w fun e w' => e = .returned (.int .i64 r) ∧ Below w.heap.size w w' := by
  have h2 := Option.some.inj h
  have h3 := block_Inputs_any a0 w hL_
  subst h2
  exact h3
def block_Name.f (a0 : Int) : Option (ByteArray) := some (blkName a0)
theorem block_Name.calls (a0 : Int) (r : ByteArray) (w : World) (h : block_Name.f a0 = some r) (hL_ : Laid w := by repeat (first | exact hL_ | exact Laid.below hL_ HB.out | apply Laid.drewN | apply Laid.drew | apply Laid.alloc | (refine Laid.below hL_ ?_; repeat (first | (with_reducible first | exact HB.out | apply below_alloc | apply pw_below_drewN | apply below_drew1 | refine below_set ?_ (Aside0.out (by assumption))) | exact HB.out)))) :
    Calls Tryd.prog 20 #[.int .i64 a0] w fun e w' => e = .returned (.string r) ∧ Below w.heap.size w w' := by
  have h2 := Option.some.inj h
  have h3 := block_Name_any a0 w hL_
  subst h2
  exact h3
def block_Find.f (a0 : ByteArray) : Option (Int) := some (blkFind a0)
theorem block_Find.calls (a0 : ByteArray) (r : Int) (w : World) (h : block_Find.f a0 = some r) (hL_ : Laid w := by repeat (first | exact hL_ | exact Laid.below hL_ HB.out | apply Laid.drewN | apply Laid.drew | apply Laid.alloc | (refine Laid.below hL_ ?_; repeat (first | (with_reducible first | exact HB.out | apply below_alloc | apply pw_below_drewN | apply below_drew1 | refine below_set ?_ (Aside0.out (by assumption))) | exact HB.out)))) :
    Calls Tryd.prog 19 #[.string a0] w fun e w' => e = .returned (.int .i64 r) ∧ Drawn0 w w' := by
  have h2 := Option.some.inj h
  have h3 := block_Find_any a0 w hL_
  subst h2
  refine h3.mono ?_
  rintro e w' ⟨rfl, hq⟩
  exact ⟨rfl, hq ▸ Drawn0.refl _⟩
def block_Field.f (a0 : Int) (a1 : Int) : Option (ByteArray × Int) := some (blkField a0 a1)
theorem block_Field.calls (a0 : Int) (a1 : Int) (r1 : ByteArray) (r2 : Int) (w : World) (h : block_Field.f a0 a1 = some (r1, r2)) (hL_ : Laid w := by repeat (first | exact hL_ | exact Laid.below hL_ HB.out | apply Laid.drewN | apply Laid.drew | apply Laid.alloc | (refine Laid.below hL_ ?_; repeat (first | (with_reducible first | exact HB.out | apply below_alloc | apply pw_below_drewN | apply below_drew1 | refine below_set ?_ (Aside0.out (by assumption))) | exact HB.out)))) :
    Calls Tryd.prog 17 #[.int .i64 a0, .int .i64 a1] w fun e w' => e = .returned (.tuple #[.string r1, .int .i64 r2]) ∧ Below w.heap.size w w' := by
  have h2 := Option.some.inj h
  have h3 := block_Field_any a0 a1 w hL_
  rw [h2] at h3
  exact h3
end Go.Proofs.YtgjnmoocgkpkiaaDoor
