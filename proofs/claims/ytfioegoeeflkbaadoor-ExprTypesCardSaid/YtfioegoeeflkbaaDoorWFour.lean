-- Shortened by wip/prunew.py out of the words that print.sh laid for this seat: what no text of this claim names is left out.
import Derived.Test.YtfioegoeeflkbaaDoorWTab
/-! ### 56. Four, five, six operations that may come up next, in any order -/
namespace Go.Proofs.YtfioegoeeflkbaaDoorW.PrintLast
section
variable {P : Program} {ops : Array Oper} {Q : Exit → Act → World → Prop} {md : Region.Mode} {S : World → Prop} {ds : List Nat} {T : Bool × List (List Nat × List Nat)}
end
end Go.Proofs.YtfioegoeeflkbaaDoorW.PrintLast
