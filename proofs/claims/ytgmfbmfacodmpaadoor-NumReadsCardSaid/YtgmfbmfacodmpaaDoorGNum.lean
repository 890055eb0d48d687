/- num.Print and kind.Name in the printed texts' form. The tables' cells are a premise that the row's own list gives. -/
import Derived.Test.YtgmfbmfacodmpaaDoorNumPrint
import Derived.Test.YtgmfbmfacodmpaaDoorKind
namespace Go.Proofs.YtgmfbmfacodmpaaDoor
open Go.RowKit
/-- What the law's tables hold. -/
def Laid (w : World) : Prop := KindTab w
theorem Laid.below {w w' : World} (h : Laid w) (hb : Below w.heap.size w w') : Laid w' := Tab.below h hb (Nat.le_refl _)
theorem Laid.drewN {w : World} {n : Nat} (h : Laid w) : Laid (w.drewN n) := h
theorem Laid.drew {w : World} (h : Laid w) : Laid w.drew := h
theorem Laid.alloc {w : World} {o : Obj} (h : Laid w) : Laid (w.alloc o) := Tab.below h ((Below.refl w.heap.size w).alloc (Nat.le_refl _) o) (Nat.le_refl _)
def num_Print.f (a0 : Int) : Option ByteArray := if (Lit.int .i64 a0).wf = true then some (printS a0) else none
theorem num_Print.calls (a0 : Int) (r : ByteArray) (w : World) (h : num_Print.f a0 = some r) : Calls Tryd.prog 30 #[.int .i64 a0] w fun e w' => e = .returned (.string r) ∧ Below w.heap.size w w' := by
  unfold num_Print.f at h
  split at h
  · rename_i hw
    obtain rfl := Option.some.inj h
    exact num_Print_any a0 hw w
  · cases h
def kind_Name.f (a0 : Int) : Option ByteArray := some (kindNm a0)
theorem kind_Name.calls (a0 : Int) (r : ByteArray) (w : World) (h : kind_Name.f a0 = some r) (hL_ : Laid w := by repeat (first | exact hL_ | exact Laid.below hL_ HB.out | apply Laid.drewN | apply Laid.drew | apply Laid.alloc)) :
    Calls Tryd.prog 40 #[.int .i64 a0] w fun e w' => e = .returned (.string r) ∧ Below w.heap.size w w' := by
  obtain rfl := Option.some.inj h
  exact kind_Name_any a0 w hL_
end Go.Proofs.YtgmfbmfacodmpaaDoor
