-- Shortened by wip/prunew.py out of the words that print.sh laid for this seat: what no text of this claim names is left out.
import Derived.Test.YtfioegoeeflkbaaDoorWInv
import Derived.Test.YtfioegoeeflkbaaDoorWFootNe
namespace Go.Proofs.YtfioegoeeflkbaaDoorW.PrintWords
open Go.RowKit
end Go.Proofs.YtfioegoeeflkbaaDoorW.PrintWords
namespace Go.Proofs.YtfioegoeeflkbaaDoorW.PrintLast
section
variable {ops : Array Oper} {a : Act} {o og : Oper} {g : Nat} {t : Tmp} {u : Bool}
end
end Go.Proofs.YtfioegoeeflkbaaDoorW.PrintLast
