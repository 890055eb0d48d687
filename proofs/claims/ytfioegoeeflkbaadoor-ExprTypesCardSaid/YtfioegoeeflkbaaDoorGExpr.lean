/- alu.Goes and block.Field in the printed texts' form. The tables' cells are a premise that the row's own list gives. -/
import Derived.Test.YtfioegoeeflkbaaDoorAlu
import Derived.Test.YtfioegoeeflkbaaDoorBlockF
namespace Go.Proofs.YtfioegoeeflkbaaDoor
open Go.RowKit
/-- What the law's tables hold. -/
def Laid (w : World) : Prop := AluTab w ∧ BlockTab w
theorem Laid.below {w w' : World} (h : Laid w) (hb : Below w.heap.size w w') : Laid w' := ⟨Tab.below h.1 hb (Nat.le_refl _), Tab.below h.2 hb (Nat.le_refl _)⟩
theorem Laid.drewN {w : World} {n : Nat} (h : Laid w) : Laid (w.drewN n) := h
theorem Laid.drew {w : World} (h : Laid w) : Laid w.drew := h
theorem Laid.alloc {w : World} {o : Obj} (h : Laid w) : Laid (w.alloc o) := Laid.below h ((Below.refl w.heap.size w).alloc (Nat.le_refl _) o)
def alu_Goes.f (a0 a1 : Int) : Option Bool := if a0 ≤ 9223372036854775807 then some (aluGo a0 a1) else none
theorem alu_Goes.calls (a0 a1 : Int) (r : Bool) (w : World) (h : alu_Goes.f a0 a1 = some r) (hL_ : Laid w := by repeat (first | exact hL_ | exact Laid.below hL_ HB.out | apply Laid.drewN | apply Laid.drew | apply Laid.alloc | (refine Laid.below hL_ ?_; repeat (first | (with_reducible first | exact HB.out | apply below_alloc | apply pw_below_drewN | apply below_drew1 | refine below_set ?_ (Aside0.out (by assumption))) | exact HB.out)))) :
    Calls Tryd.prog 127 #[.int .i64 a0, .int .i64 a1] w fun e w' => e = .returned (.bool r) ∧ Below w.heap.size w w' := by
  unfold alu_Goes.f at h
  split at h
  · rename_i hw
    obtain rfl := Option.some.inj h
    refine (alu_Goes_any a0 a1 hw w hL_.1).mono ?_
    rintro e w' ⟨rfl, rfl⟩
    exact ⟨rfl, Below.refl _ _⟩
  · cases h
def block_Field.f (a0 a1 : Int) : Option (ByteArray × Int) := some (blkField a0 a1)
theorem block_Field.calls (a0 a1 : Int) (r1 : ByteArray) (r2 : Int) (w : World) (h : block_Field.f a0 a1 = some (r1, r2)) (hL_ : Laid w := by repeat (first | exact hL_ | exact Laid.below hL_ HB.out | apply Laid.drewN | apply Laid.drew | apply Laid.alloc | (refine Laid.below hL_ ?_; repeat (first | (with_reducible first | exact HB.out | apply below_alloc | apply pw_below_drewN | apply below_drew1 | refine below_set ?_ (Aside0.out (by assumption))) | exact HB.out)))) :
    Calls Tryd.prog 100 #[.int .i64 a0, .int .i64 a1] w fun e w' => e = .returned (.tuple #[.string r1, .int .i64 r2]) ∧ Below w.heap.size w w' := by
  have h2 := Option.some.inj h
  have := block_Field_any a0 a1 w hL_.2
  rw [h2] at this
  exact this
end Go.Proofs.YtfioegoeeflkbaaDoor
