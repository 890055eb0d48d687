/- Functions proved by hand, in the printed texts' form: op.Shape, op.Word, op.Find, num.Print, strings.Split. The tables' cells are a premise that the row's own list gives. -/
import Derived.Test.YticmkjkngngdhaaDoorOp
import Derived.Test.YticmkjkngngdhaaDoorNumPrint
import Derived.Test.YticmkjkngngdhaaDoorShelf
import Derived.Test.YticmkjkngngdhaaDoorMaxL
import Derived.Test.YticmkjkngngdhaaDoorWWords
namespace Go.Proofs.YticmkjkngngdhaaDoor
open Go.RowKit Go.Proofs.YticmkjkngngdhaaDoorW.PrintWords
/-- What the law's tables hold. -/
def Laid (w : World) : Prop := OpTab w ∧ MaxLen w
theorem Laid.below {w w' : World} (h : Laid w) (hb : Below w.heap.size w w') : Laid w' := ⟨Tab.below h.1 hb (Nat.le_refl _), MaxLen.below h.2 hb (Nat.le_refl _)⟩
theorem Laid.drewN {w : World} {n : Nat} (h : Laid w) : Laid (w.drewN n) := h
theorem Laid.drew {w : World} (h : Laid w) : Laid w.drew := h
theorem Laid.alloc {w : World} {o : Obj} (h : Laid w) : Laid (w.alloc o) := Laid.below h ((Below.refl w.heap.size w).alloc (Nat.le_refl _) o)
def op_Shape.f (a0 : Int) : Option (Int × Int) := some ((opA a0, opB a0))
theorem op_Shape.calls (a0 : Int) (r1 : Int) (r2 : Int) (w : World) (h : op_Shape.f a0 = some (r1, r2)) (hL_ : Laid w := by repeat (first | exact hL_ | exact Laid.below hL_ HB.out | apply Laid.drewN | apply Laid.drew | apply Laid.alloc | (refine Laid.below hL_ ?_; repeat (first | (with_reducible first | exact HB.out | apply below_alloc | apply pw_below_drewN | apply below_drew1 | refine below_set ?_ (Aside0.out (by assumption))) | exact HB.out)))) :
    Calls Tryd.prog 77 #[.int .i64 a0] w fun e w' => e = .returned (.tuple #[.int .i64 r1, .int .i64 r2]) ∧ Drawn0 w w' := by
  have h2 := Option.some.inj h
  have h3 := op_Shape_any a0 w hL_.1
  obtain ⟨rfl, rfl⟩ := Prod.mk.inj h2
  refine h3.mono ?_
  rintro e w' ⟨rfl, hq⟩
  exact ⟨rfl, ⟨hq⟩⟩
def op_Word.f (a0 : Int) : Option (ByteArray) := some (opWd a0)
theorem op_Word.calls (a0 : Int) (r : ByteArray) (w : World) (h : op_Word.f a0 = some r) (hL_ : Laid w := by repeat (first | exact hL_ | exact Laid.below hL_ HB.out | apply Laid.drewN | apply Laid.drew | apply Laid.alloc | (refine Laid.below hL_ ?_; repeat (first | (with_reducible first | exact HB.out | apply below_alloc | apply pw_below_drewN | apply below_drew1 | refine below_set ?_ (Aside0.out (by assumption))) | exact HB.out)))) :
    Calls Tryd.prog 76 #[.int .i64 a0] w fun e w' => e = .returned (.string r) ∧ Drawn0 w w' := by
  have h2 := Option.some.inj h
  have h3 := op_Word_any a0 w hL_.1
  subst h2
  refine h3.mono ?_
  rintro e w' ⟨rfl, hq⟩
  exact ⟨rfl, hq ▸ Drawn0.refl _⟩
def op_Find.f (a0 : ByteArray) : Option (Int × Bool) := some (opFind a0)
theorem op_Find.calls (a0 : ByteArray) (r1 : Int) (r2 : Bool) (w : World) (h : op_Find.f a0 = some (r1, r2)) (hL_ : Laid w := by repeat (first | exact hL_ | exact Laid.below hL_ HB.out | apply Laid.drewN | apply Laid.drew | apply Laid.alloc | (refine Laid.below hL_ ?_; repeat (first | (with_reducible first | exact HB.out | apply below_alloc | apply pw_below_drewN | apply below_drew1 | refine below_set ?_ (Aside0.out (by assumption))) | exact HB.out)))) :
    Calls Tryd.prog 73 #[.string a0] w fun e w' => e = .returned (.tuple #[.int .i64 r1, .bool r2]) ∧ Drawn0 w w' := by
  have h2 := Option.some.inj h
  have h3 := op_Find_any a0 w hL_.1
  rw [h2] at h3
  refine h3.mono ?_
  rintro e w' ⟨rfl, hq⟩
  exact ⟨rfl, hq ▸ Drawn0.refl _⟩
def num_Print.f (a0 : Int) : Option (ByteArray) := if (Lit.int .i64 a0).wf = true then some (printS a0) else none
theorem num_Print.calls (a0 : Int) (r : ByteArray) (w : World) (h : num_Print.f a0 = some r) :
    Calls Tryd.prog 26 #[.int .i64 a0] w fun e w' => e = .returned (.string r) ∧ Below w.heap.size w w' := by
  unfold num_Print.f at h
  split at h
  · rename_i hw
    have h2 := Option.some.inj h
    have h3 := num_Print_any a0 hw w
    subst h2
    exact h3
  · cases h
def strings_Split.f (a0 a1 : ByteArray) : Option (List ByteArray) := if a0.size < 4294967281 ∧ 1 ≤ a1.size then some (Lib.splitB a1 0 (Lib.countB a0 a1) a0) else none
theorem strings_Split.calls (a0 a1 : ByteArray) (r : List ByteArray) (w : World) (h : strings_Split.f a0 a1 = some r) (hL_ : Laid w := by repeat (first | exact hL_ | exact Laid.below hL_ HB.out | apply Laid.drewN | apply Laid.drew | apply Laid.alloc | (refine Laid.below hL_ ?_; repeat (first | (with_reducible first | exact HB.out | apply below_alloc | apply pw_below_drewN | apply below_drew1 | refine below_set ?_ (Aside0.out (by assumption))) | exact HB.out)))) :
    Calls Tryd.prog 72 #[.string a0, .string a1] w fun e w' => ∃ v0_ : Value, e = .returned v0_ ∧ Kd.R Kd.string 9 w' w.heap.size (fun _ => True) v0_ r ∧ Below w.heap.size w w' := by
  unfold strings_Split.f at h
  split at h
  · rename_i hs
    have h2 := Option.some.inj h
    have hlen : (Lib.splitB a1 0 (Lib.countB a0 a1) a0).length = Lib.countB a0 a1 + 1 := Lib.splitB_all a1 hs.2 0 _ a0 rfl
    rw [h2] at hlen
    obtain ⟨m, hm⟩ := hL_.2.2
    refine (Tryd.strings_Split a0 a1 m w hs.1 hm hs.2).mono ?_
    rintro e w' ⟨rfl, rfl⟩
    rw [h2, ← hlen]
    refine ⟨_, rfl, Kd.R_of_own (enc := Value.string) (h1 := fun _ => rfl) ?_ (fun _ _ => trivial), (Below.refl _ _).alloc (Nat.le_refl _) _⟩
    have hq := World.ownsRow_lit (base := w.heap.size) (e := 9) (size := 1) w (r.map Value.string).toArray r.length (Nat.le_refl _) ?_ (by simp)
    · simpa [encs] using hq
    · have h3 := Lib.splitB_length_le a1 0 (Lib.countB a0 a1) a0
      have h4 := Lib.countB_le a1 hs.2 a0.size a0 (Nat.le_refl _)
      rw [h2] at h3
      simp only [maxLen]
      omega
  · cases h
end Go.Proofs.YticmkjkngngdhaaDoor
