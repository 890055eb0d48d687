-- Shortened by wip/prunew.py out of the words that print.sh laid for this seat: what no text of this claim names is left out.
import Derived.Test.YtfioegoeeflkbaaDoorWN
/-! ### 52. A row that stays read whatever happens to a block (a set of blocks) doesn't lie there -/
namespace Go.Proofs.YtfioegoeeflkbaaDoorW.PrintWords
open Go.RowKit
namespace Kd
section
variable {α : Type} {d : Kd α} {W : World} {g n : Nat} {S ok : Nat → Prop} {A : Option Addr} {ad : Addr} {xs : List α}
end
end Kd
end Go.Proofs.YtfioegoeeflkbaaDoorW.PrintWords
