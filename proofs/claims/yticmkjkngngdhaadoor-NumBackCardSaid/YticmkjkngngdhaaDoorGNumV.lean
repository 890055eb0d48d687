/- num.Print, kind.Name, kind.Find and strings.Cut in the printed texts' form. The tables' cells are a premise that the row's own list gives; that internal/bytealg.MaxLen holds some int is given by the world's shape. -/
import Derived.Test.YticmkjkngngdhaaDoorNumPrint
import Derived.Test.YticmkjkngngdhaaDoorKind
import Derived.Test.YticmkjkngngdhaaDoorKindFind
import Derived.Test.YticmkjkngngdhaaDoorShelf
namespace Go.Proofs.YticmkjkngngdhaaDoor
open Go.RowKit
/-- internal/bytealg.MaxLen holds some int. -/
def MaxLen (w : World) : Prop := 3 < w.heap.size ∧ ∃ m, w.cell? ⟨3, 0, none⟩ = some (.int .i64 m)
theorem MaxLen.below {B : Nat} {w w' : World} (h : MaxLen w) (hb : Below B w w') (hB : w.heap.size ≤ B) : MaxLen w' :=
  ⟨Nat.lt_of_lt_of_le h.1 hb.size, h.2.imp fun _ hm => (hb.cell (p := ⟨3, 0, none⟩) (Nat.lt_of_lt_of_le h.1 hB)).trans hm⟩
theorem maxLen_of {w : World} (h : ∃ m, w.cell? ⟨3, 0, none⟩ = some (.int .i64 m)) : MaxLen w := by
  refine ⟨?_, h⟩
  obtain ⟨m, hm⟩ := h
  unfold World.cell? at hm
  rcases Nat.lt_or_ge 3 w.heap.size with h | h
  · exact h
  · rw [Array.getElem?_eq_none h] at hm
    cases hm
/-- What the law's tables hold. -/
def Laid (w : World) : Prop := KindTab w ∧ MaxLen w
theorem Laid.below {w w' : World} (h : Laid w) (hb : Below w.heap.size w w') : Laid w' := ⟨Tab.below h.1 hb (Nat.le_refl _), h.2.below hb (Nat.le_refl _)⟩
theorem Laid.drewN {w : World} {n : Nat} (h : Laid w) : Laid (w.drewN n) := h
theorem Laid.drew {w : World} (h : Laid w) : Laid w.drew := h
theorem Laid.alloc {w : World} {o : Obj} (h : Laid w) : Laid (w.alloc o) := Laid.below h ((Below.refl w.heap.size w).alloc (Nat.le_refl _) o)
def num_Print.f (a0 : Int) : Option ByteArray := if (Lit.int .i64 a0).wf = true then some (printS a0) else none
theorem num_Print.calls (a0 : Int) (r : ByteArray) (w : World) (h : num_Print.f a0 = some r) : Calls Tryd.prog 26 #[.int .i64 a0] w fun e w' => e = .returned (.string r) ∧ Below w.heap.size w w' := by
  unfold num_Print.f at h
  split at h
  · rename_i hw
    obtain rfl := Option.some.inj h
    exact num_Print_any a0 hw w
  · cases h
def kind_Name.f (a0 : Int) : Option ByteArray := some (kindNm a0)
theorem kind_Name.calls (a0 : Int) (r : ByteArray) (w : World) (h : kind_Name.f a0 = some r) (hL_ : Laid w := by repeat (first | exact hL_ | exact Laid.below hL_ HB.out | apply Laid.drewN | apply Laid.drew | apply Laid.alloc)) :
    Calls Tryd.prog 67 #[.int .i64 a0] w fun e w' => e = .returned (.string r) ∧ Below w.heap.size w w' := by
  obtain rfl := Option.some.inj h
  exact kind_Name_any a0 w hL_.1
def kind_Find.f (a0 : ByteArray) : Option Int := some (kindFd a0)
theorem kind_Find.calls (a0 : ByteArray) (r : Int) (w : World) (h : kind_Find.f a0 = some r) (hL_ : Laid w := by repeat (first | exact hL_ | exact Laid.below hL_ HB.out | apply Laid.drewN | apply Laid.drew | apply Laid.alloc)) :
    Calls Tryd.prog 63 #[.string a0] w fun e w' => e = .returned (.int .i64 r) ∧ Below w.heap.size w w' := by
  obtain rfl := Option.some.inj h
  refine (kind_Find_any a0 w hL_.1).mono ?_
  rintro e w' ⟨rfl, rfl⟩
  exact ⟨rfl, Below.refl _ _⟩
def strings_Cut.f (a0 a1 : ByteArray) : Option (ByteArray × ByteArray × Bool) := if a0.size < 4294967281 then some (⟨(Lib.cut a0.data.toList a1.data.toList).1.toArray⟩, ⟨(Lib.cut a0.data.toList a1.data.toList).2.1.toArray⟩, (Lib.cut a0.data.toList a1.data.toList).2.2) else none
theorem strings_Cut.calls (a0 a1 : ByteArray) (r1 r2 : ByteArray) (r3 : Bool) (w : World) (h : strings_Cut.f a0 a1 = some (r1, r2, r3)) (hL_ : Laid w := by repeat (first | exact hL_ | exact Laid.below hL_ HB.out | apply Laid.drewN | apply Laid.drew | apply Laid.alloc)) :
    Calls Tryd.prog 62 #[.string a0, .string a1] w fun e w' => e = .returned (.tuple #[.string r1, .string r2, .bool r3]) ∧ Below w.heap.size w w' := by
  unfold strings_Cut.f at h
  split at h
  · rename_i hs
    obtain ⟨m, hm⟩ := hL_.2.2
    obtain ⟨rfl, h2⟩ := Prod.mk.inj (Option.some.inj h)
    obtain ⟨rfl, rfl⟩ := Prod.mk.inj h2
    refine (Tryd.strings_Cut a0 a1 m w hs hm).mono ?_
    rintro e w' ⟨rfl, n, rfl⟩
    exact ⟨rfl, ⟨rfl, rfl, rfl, Nat.le_refl _, fun _ _ => rfl⟩⟩
  · cases h
end Go.Proofs.YticmkjkngngdhaaDoor
