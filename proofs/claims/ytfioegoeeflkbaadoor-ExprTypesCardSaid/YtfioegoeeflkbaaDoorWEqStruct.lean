-- Shortened by wip/prunew.py out of the words that print.sh laid for this seat: what no text of this claim names is left out.
import Derived.Test.YtfioegoeeflkbaaDoorWWords
import Derived.Laws.StructEq
/-! ### 53. '==' of structs as_ one Bool -/
namespace Go.Proofs.YtfioegoeeflkbaaDoorW.PrintWords
open Go.RowKit
section
variable {P : Program} {d : Nat} {xs ys : Array Value} {f : Field} {fs : List Field} {a b : Value} {r s : Bool} {w : World}
end
end Go.Proofs.YtfioegoeeflkbaaDoorW.PrintWords
