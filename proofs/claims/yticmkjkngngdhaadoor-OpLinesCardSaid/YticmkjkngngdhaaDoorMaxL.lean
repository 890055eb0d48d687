/- internal/bytealg.MaxLen holds some int: given by the world's shape. No condition. -/
import Derived.Test.YticmkjkngngdhaaDoorProg
import Derived.Below
namespace Go.Proofs.YticmkjkngngdhaaDoor
open Go.RowKit
/-- internal/bytealg.MaxLen holds some int. -/
def MaxLen (w : World) : Prop := 3 < w.heap.size ∧ ∃ m, w.cell? ⟨3, 0, none⟩ = some (.int .i64 m)
theorem MaxLen.below {B : Nat} {w w' : World} (h : MaxLen w) (hb : Below B w w') (hB : w.heap.size ≤ B) : MaxLen w' :=
  ⟨Nat.lt_of_lt_of_le h.1 hb.size, h.2.imp fun _ hm => (hb.cell (p := ⟨3, 0, none⟩) (Nat.lt_of_lt_of_le h.1 hB)).trans hm⟩
theorem maxLen_of {w : World} (h : ∃ m, w.cell? ⟨3, 0, none⟩ = some (.int .i64 m)) : MaxLen w := by
  refine ⟨?_, h⟩
  obtain ⟨m, hm⟩ := h
  unfold World.cell? at hm
  rcases Nat.lt_or_ge 3 w.heap.size with h | h
  · exact h
  · rw [Array.getElem?_eq_none h] at hm
    cases hm
end Go.Proofs.YticmkjkngngdhaaDoor
