/- Package-level tables that hold known cells, and what keeps them. No condition. -/
import Derived.Test.YtfiffhcpgojkhaaDoorProg
import Derived.WalkKit
import Derived.Below
import Derived.Deep.Draws
namespace Go.Proofs.YtfiffhcpgojkhaaDoor
open Go.RowKit
/-- The variable of number g holds these cells. -/
def Tab (g : Nat) (cs : List Value) (w : World) : Prop := g < w.heap.size ∧ ∀ k v, cs[k]? = some v → w.cell? ⟨g, k, none⟩ = some v
theorem Tab.below {g B : Nat} {cs : List Value} {w w' : World} (h : Tab g cs w) (hb : Below B w w') (hB : w.heap.size ≤ B) : Tab g cs w' :=
  ⟨Nat.lt_of_lt_of_le h.1 hb.size, fun k v hv => (hb.cell (p := ⟨g, k, none⟩) (Nat.lt_of_lt_of_le h.1 hB)).trans (h.2 k v hv)⟩
theorem Tab.drewN {g : Nat} {cs : List Value} {w : World} (h : Tab g cs w) (n : Nat) : Tab g cs (w.drewN n) := h
theorem Tab.drew {g : Nat} {cs : List Value} {w : World} (h : Tab g cs w) : Tab g cs w.drew := h
theorem Tab.at {g : Nat} {cs : List Value} {w : World} (h : Tab g cs w) (k : Nat) (v : Value) (hv : cs[k]? = some v) : w.cell? ⟨g, k, none⟩ = some v := h.2 k v hv
end Go.Proofs.YtfiffhcpgojkhaaDoor
