/-
  NARROWER THAN 'FOR EVERY INPUT', by the rows' own cells (each row's printed sentence says how): BlockTells: laid · OpTells: laid · NumReads: laid.
  DERIVED. THE GIVEN ROWS OF THIS SEAT. 3 by the template 'for every input the law returns true; each argument reads behind the call as it read before'; 0 by the template 'total and deterministic' (their statements: YtgmfbmfacodmpaaDoorTotals.lean).
  GIVEN WITH THE SEED: the statements are not yours to turn. If you find one false, say at which input.
  Laid BY PROGRAM, IN A SANDBOX (cutbox-rows.mjs): the forced cells as the released guide's own fill.sh prints them over the translation c4704ccd95cb7096… (all of the seat's roots in one cut). By AI agents, Wed Nov 11 2026. No macro, syntax, notation, axiom, sorry.
-/
import Derived.Test.YtgmfbmfacodmpaaDoorChecked
import GoSem.Claim
import GoSem.ClaimJoined
import GoSem.ClaimMapViews
import Derived.JoinedTies
import Derived.KernelRfl
namespace Go.Proofs.YtgmfbmfacodmpaaDoor
/- THE CELL 'sum', in the pinned program and in every row, IS THE sha256 OF THE DUMP (.gsa) THAT YtgmfbmfacodmpaaDoorProg.lean LOADS. Nothing in Lean hashes anything: it is a label: what it is worth is what the hold of that sum in a sandbox is worth. -/
noncomputable def Tryd.pinned : Pinned := { name := "ytgmfbmfacodmpaadoor", sum := "c4704ccd95cb709663062fc1a4e56bf0544ee47f3db674ccdeddb14dc80273d7", checked := Tryd.checked }
namespace Rows
def none {H : Type} : Left H := { results := [], args := [] }

/- WHAT THE LISTED PACKAGE-LEVEL VARIABLES READ AS WHEN THE CALL BEGINS. Each datum BY PROGRAM (the guide's laid-datum.mjs) off the statement by which the dump's own 'gosem.cut.vars' lays the variable. In a bare row this is a premise. The card (YtgmfbmfacodmpaaDoorCards.lean) ties it to the program's text. -/
def laid_ladderback_block_rows {H : Type} : DataW H := .agg [.agg [.lit (.string []), .lit (.int .i64 0), .agg [.agg [.lit (.string []), .lit (.int .i64 0)], .agg [.lit (.string []), .lit (.int .i64 0)], .agg [.lit (.string []), .lit (.int .i64 0)], .agg [.lit (.string []), .lit (.int .i64 0)], .agg [.lit (.string []), .lit (.int .i64 0)], .agg [.lit (.string []), .lit (.int .i64 0)], .agg [.lit (.string []), .lit (.int .i64 0)], .agg [.lit (.string []), .lit (.int .i64 0)]]], .agg [.lit (.string [84, 79, 78]), .lit (.int .i64 2), .agg [.agg [.lit (.string [73, 78]), .lit (.int .i64 1)], .agg [.lit (.string [80, 84]), .lit (.int .i64 6)], .agg [.lit (.string [81]), .lit (.int .i64 1)], .agg [.lit (.string [69, 84]), .lit (.int .i64 6)], .agg [.lit (.string []), .lit (.int .i64 0)], .agg [.lit (.string []), .lit (.int .i64 0)], .agg [.lit (.string []), .lit (.int .i64 0)], .agg [.lit (.string []), .lit (.int .i64 0)]]], .agg [.lit (.string [84, 79, 70]), .lit (.int .i64 2), .agg [.agg [.lit (.string [73, 78]), .lit (.int .i64 1)], .agg [.lit (.string [80, 84]), .lit (.int .i64 6)], .agg [.lit (.string [81]), .lit (.int .i64 1)], .agg [.lit (.string [69, 84]), .lit (.int .i64 6)], .agg [.lit (.string []), .lit (.int .i64 0)], .agg [.lit (.string []), .lit (.int .i64 0)], .agg [.lit (.string []), .lit (.int .i64 0)], .agg [.lit (.string []), .lit (.int .i64 0)]]], .agg [.lit (.string [84, 80]), .lit (.int .i64 2), .agg [.agg [.lit (.string [73, 78]), .lit (.int .i64 1)], .agg [.lit (.string [80, 84]), .lit (.int .i64 6)], .agg [.lit (.string [81]), .lit (.int .i64 1)], .agg [.lit (.string [69, 84]), .lit (.int .i64 6)], .agg [.lit (.string []), .lit (.int .i64 0)], .agg [.lit (.string []), .lit (.int .i64 0)], .agg [.lit (.string []), .lit (.int .i64 0)], .agg [.lit (.string []), .lit (.int .i64 0)]]], .agg [.lit (.string [67, 84, 85]), .lit (.int .i64 3), .agg [.agg [.lit (.string [67, 85]), .lit (.int .i64 1)], .agg [.lit (.string [82]), .lit (.int .i64 1)], .agg [.lit (.string [80, 86]), .lit (.int .i64 2)], .agg [.lit (.string [81]), .lit (.int .i64 1)], .agg [.lit (.string [67, 86]), .lit (.int .i64 2)], .agg [.lit (.string []), .lit (.int .i64 0)], .agg [.lit (.string []), .lit (.int .i64 0)], .agg [.lit (.string []), .lit (.int .i64 0)]]], .agg [.lit (.string [67, 84, 68]), .lit (.int .i64 3), .agg [.agg [.lit (.string [67, 68]), .lit (.int .i64 1)], .agg [.lit (.string [76, 68]), .lit (.int .i64 1)], .agg [.lit (.string [80, 86]), .lit (.int .i64 2)], .agg [.lit (.string [81]), .lit (.int .i64 1)], .agg [.lit (.string [67, 86]), .lit (.int .i64 2)], .agg [.lit (.string []), .lit (.int .i64 0)], .agg [.lit (.string []), .lit (.int .i64 0)], .agg [.lit (.string []), .lit (.int .i64 0)]]], .agg [.lit (.string [67, 84, 85, 68]), .lit (.int .i64 5), .agg [.agg [.lit (.string [67, 85]), .lit (.int .i64 1)], .agg [.lit (.string [67, 68]), .lit (.int .i64 1)], .agg [.lit (.string [82]), .lit (.int .i64 1)], .agg [.lit (.string [76, 68]), .lit (.int .i64 1)], .agg [.lit (.string [80, 86]), .lit (.int .i64 2)], .agg [.lit (.string [81, 85]), .lit (.int .i64 1)], .agg [.lit (.string [81, 68]), .lit (.int .i64 1)], .agg [.lit (.string [67, 86]), .lit (.int .i64 2)]]], .agg [.lit (.string [82, 95, 84, 82, 73, 71]), .lit (.int .i64 1), .agg [.agg [.lit (.string [67, 76, 75]), .lit (.int .i64 1)], .agg [.lit (.string [81]), .lit (.int .i64 1)], .agg [.lit (.string []), .lit (.int .i64 0)], .agg [.lit (.string []), .lit (.int .i64 0)], .agg [.lit (.string []), .lit (.int .i64 0)], .agg [.lit (.string []), .lit (.int .i64 0)], .agg [.lit (.string []), .lit (.int .i64 0)], .agg [.lit (.string []), .lit (.int .i64 0)]]], .agg [.lit (.string [70, 95, 84, 82, 73, 71]), .lit (.int .i64 1), .agg [.agg [.lit (.string [67, 76, 75]), .lit (.int .i64 1)], .agg [.lit (.string [81]), .lit (.int .i64 1)], .agg [.lit (.string []), .lit (.int .i64 0)], .agg [.lit (.string []), .lit (.int .i64 0)], .agg [.lit (.string []), .lit (.int .i64 0)], .agg [.lit (.string []), .lit (.int .i64 0)], .agg [.lit (.string []), .lit (.int .i64 0)], .agg [.lit (.string []), .lit (.int .i64 0)]]]]
def laid_ladderback_op_rows {H : Type} : DataW H := .agg [.agg [.lit (.string [110, 111, 112]), .lit (.int .i64 10), .lit (.int .i64 10)], .agg [.lit (.string [99, 111, 110, 115, 116]), .lit (.int .i64 1), .lit (.int .i64 0)], .agg [.lit (.string [108, 111, 97, 100]), .lit (.int .i64 2), .lit (.int .i64 0)], .agg [.lit (.string [115, 116, 111, 114, 101]), .lit (.int .i64 2), .lit (.int .i64 0)], .agg [.lit (.string [103, 101, 116]), .lit (.int .i64 3), .lit (.int .i64 0)], .agg [.lit (.string [112, 117, 116]), .lit (.int .i64 3), .lit (.int .i64 0)], .agg [.lit (.string [105, 116, 101, 109]), .lit (.int .i64 2), .lit (.int .i64 0)], .agg [.lit (.string [107, 101, 101, 112]), .lit (.int .i64 2), .lit (.int .i64 0)], .agg [.lit (.string [97, 100, 100]), .lit (.int .i64 4), .lit (.int .i64 0)], .agg [.lit (.string [115, 117, 98]), .lit (.int .i64 4), .lit (.int .i64 0)], .agg [.lit (.string [109, 117, 108]), .lit (.int .i64 4), .lit (.int .i64 0)], .agg [.lit (.string [100, 105, 118]), .lit (.int .i64 4), .lit (.int .i64 0)], .agg [.lit (.string [109, 111, 100]), .lit (.int .i64 4), .lit (.int .i64 0)], .agg [.lit (.string [110, 101, 103]), .lit (.int .i64 4), .lit (.int .i64 0)], .agg [.lit (.string [97, 110, 100]), .lit (.int .i64 4), .lit (.int .i64 0)], .agg [.lit (.string [111, 114]), .lit (.int .i64 4), .lit (.int .i64 0)], .agg [.lit (.string [120, 111, 114]), .lit (.int .i64 4), .lit (.int .i64 0)], .agg [.lit (.string [110, 111, 116]), .lit (.int .i64 4), .lit (.int .i64 0)], .agg [.lit (.string [115, 104, 108]), .lit (.int .i64 4), .lit (.int .i64 0)], .agg [.lit (.string [115, 104, 114]), .lit (.int .i64 4), .lit (.int .i64 0)], .agg [.lit (.string [101, 113]), .lit (.int .i64 4), .lit (.int .i64 0)], .agg [.lit (.string [110, 101]), .lit (.int .i64 4), .lit (.int .i64 0)], .agg [.lit (.string [108, 116]), .lit (.int .i64 4), .lit (.int .i64 0)], .agg [.lit (.string [108, 101]), .lit (.int .i64 4), .lit (.int .i64 0)], .agg [.lit (.string [103, 116]), .lit (.int .i64 4), .lit (.int .i64 0)], .agg [.lit (.string [103, 101]), .lit (.int .i64 4), .lit (.int .i64 0)], .agg [.lit (.string [99, 111, 110, 118]), .lit (.int .i64 4), .lit (.int .i64 4)], .agg [.lit (.string [100, 117, 112]), .lit (.int .i64 0), .lit (.int .i64 0)], .agg [.lit (.string [112, 111, 112]), .lit (.int .i64 0), .lit (.int .i64 0)], .agg [.lit (.string [115, 119, 97, 112]), .lit (.int .i64 0), .lit (.int .i64 0)], .agg [.lit (.string [106, 117, 109, 112]), .lit (.int .i64 5), .lit (.int .i64 10)], .agg [.lit (.string [102, 97, 108, 115, 101]), .lit (.int .i64 5), .lit (.int .i64 10)], .agg [.lit (.string [115, 119, 105, 116, 99, 104]), .lit (.int .i64 6), .lit (.int .i64 10)], .agg [.lit (.string [99, 97, 108, 108]), .lit (.int .i64 7), .lit (.int .i64 0)], .agg [.lit (.string [114, 101, 116]), .lit (.int .i64 0), .lit (.int .i64 0)], .agg [.lit (.string [115, 101, 116]), .lit (.int .i64 8), .lit (.int .i64 9)], .agg [.lit (.string [114, 117, 110]), .lit (.int .i64 8), .lit (.int .i64 0)], .agg [.lit (.string [111, 117, 116]), .lit (.int .i64 8), .lit (.int .i64 9)]]
def laid_ladderback_kind_rows {H : Type} : DataW H := .agg [.agg [.lit (.string []), .lit (.int .i64 0), .lit (.bool false)], .agg [.lit (.string [66, 79, 79, 76]), .lit (.int .i64 1), .lit (.bool false)], .agg [.lit (.string [73, 78, 84]), .lit (.int .i64 16), .lit (.bool true)], .agg [.lit (.string [68, 73, 78, 84]), .lit (.int .i64 32), .lit (.bool true)], .agg [.lit (.string [87, 79, 82, 68]), .lit (.int .i64 16), .lit (.bool false)], .agg [.lit (.string [68, 87, 79, 82, 68]), .lit (.int .i64 32), .lit (.bool false)], .agg [.lit (.string [84, 73, 77, 69]), .lit (.int .i64 64), .lit (.bool true)]]

/-- 'ladderbacklaw11.BlockTells': WHATEVER THE INPUT: true; the input reads as it did. -/
def blockTellsSpec : ChangeSpec := { name := "blockTells", fn := fun _ => fun
  | [d1, d2, d3] => { results := [.lit (.bool true)], args := [d1, d2, d3] }
  | _ => none }
def blockTellsRow : OpenClaim := { program := "ytgmfbmfacodmpaadoor", sum := "c4704ccd95cb709663062fc1a4e56bf0544ee47f3db674ccdeddb14dc80273d7", func := "ladderback/ladderbacklaw11.BlockTells", spec := "blockTells", named := ["ladderback/block.rows"], apart := false, laid := [("ladderback/block.rows", laid_ladderback_block_rows)] }
def BlockTellsSaid : Prop := blockTellsRow.holds Tryd.pinned (OpenSpec.ofChange blockTellsSpec)

/-- ITS FALSE NEIGHBOUR: 'it returns false'. Refute it at one input. -/
def blockTellsWrong : ChangeSpec := { name := "blockTells", fn := fun _ => fun
  | [d1, d2, d3] => { results := [.lit (.bool false)], args := [d1, d2, d3] }
  | _ => none }
def BlockTellsWrongFalsely : Prop := blockTellsRow.holds Tryd.pinned (OpenSpec.ofChange blockTellsWrong)

/-- 'ladderbacklaw12.OpTells': WHATEVER THE INPUT: true; the input reads as it did. -/
def opTellsSpec : ChangeSpec := { name := "opTells", fn := fun _ => fun
  | [d1, d2, d3] => { results := [.lit (.bool true)], args := [d1, d2, d3] }
  | _ => none }
def opTellsRow : OpenClaim := { program := "ytgmfbmfacodmpaadoor", sum := "c4704ccd95cb709663062fc1a4e56bf0544ee47f3db674ccdeddb14dc80273d7", func := "ladderback/ladderbacklaw12.OpTells", spec := "opTells", named := ["ladderback/op.rows"], apart := false, laid := [("ladderback/op.rows", laid_ladderback_op_rows)] }
def OpTellsSaid : Prop := opTellsRow.holds Tryd.pinned (OpenSpec.ofChange opTellsSpec)

/-- ITS FALSE NEIGHBOUR: 'it returns false'. Refute it at one input. -/
def opTellsWrong : ChangeSpec := { name := "opTells", fn := fun _ => fun
  | [d1, d2, d3] => { results := [.lit (.bool false)], args := [d1, d2, d3] }
  | _ => none }
def OpTellsWrongFalsely : Prop := opTellsRow.holds Tryd.pinned (OpenSpec.ofChange opTellsWrong)

/-- 'ladderbacklaw04.NumReads': WHATEVER THE INPUT: true; the input reads as it did. -/
def numReadsSpec : ChangeSpec := { name := "numReads", fn := fun _ => fun
  | [d1, d2] => { results := [.lit (.bool true)], args := [d1, d2] }
  | _ => none }
def numReadsRow : OpenClaim := { program := "ytgmfbmfacodmpaadoor", sum := "c4704ccd95cb709663062fc1a4e56bf0544ee47f3db674ccdeddb14dc80273d7", func := "ladderback/ladderbacklaw04.NumReads", spec := "numReads", named := ["ladderback/kind.rows"], apart := false, laid := [("ladderback/kind.rows", laid_ladderback_kind_rows)] }
def NumReadsSaid : Prop := numReadsRow.holds Tryd.pinned (OpenSpec.ofChange numReadsSpec)

/-- ITS FALSE NEIGHBOUR: 'it returns false'. Refute it at one input. -/
def numReadsWrong : ChangeSpec := { name := "numReads", fn := fun _ => fun
  | [d1, d2] => { results := [.lit (.bool false)], args := [d1, d2] }
  | _ => none }
def NumReadsWrongFalsely : Prop := numReadsRow.holds Tryd.pinned (OpenSpec.ofChange numReadsWrong)

/- THE SECOND FORM. 'bulk': how many values and letters a reading holds, each counted each time it is reached (what is shared counts as often as it is met; a slice's spare places count too). A statement '..UptoSaid' is the law's where the arguments, and the package variables that the reading takes, are together of bulk at most 1048576: NARROWER than '..Said'. Prove '..Said' where nothing that the law and all that it calls make is longer than what came in: it says more and counts as full. Else prove '..UptoSaid'. A law counts once. -/
mutual
def uptoBulk {H : Type} : DataW H → Nat
  | .lit (.string bytes) => bytes.length + 1
  | .lit _ => 1
  | .nil => 1
  | .ptr d => uptoBulk d + 1
  | .slice elems spare => uptoBulkAll elems + uptoBulkAll spare + 1
  | .agg parts => uptoBulkAll parts + 1
  | .iface _ d => uptoBulk d + 1
  | .map entries => uptoBulkEntries entries + 1
  | .held _ => 1
def uptoBulkAll {H : Type} : List (DataW H) → Nat
  | [] => 0
  | d :: r => uptoBulk d + uptoBulkAll r
def uptoBulkEntries {H : Type} : List (Lit × DataW H) → Nat
  | [] => 0
  | x :: r => uptoBulkEntry x + uptoBulkEntries r
def uptoBulkEntry {H : Type} : Lit × DataW H → Nat
  | (.string bytes, d) => bytes.length + uptoBulk d + 1
  | (_, d) => uptoBulk d + 1
 end
def uptoSmall : (H : Type) → List (DataW H) → Bool := fun _ ds => decide (uptoBulkAll ds ≤ 1048576)
def OpenSpec.upto (s : _root_.Go.ChangeSpec) : _root_.Go.OpenSpec := { _root_.Go.OpenSpec.ofChange s with cond := some uptoSmall }

/-- 'ladderbacklaw11.BlockTells', WHERE WHAT IT READS IS OF BULK AT MOST 1048576: true; the input reads as it did. -/
def blockTellsUptoRow : OpenClaim := { program := "ytgmfbmfacodmpaadoor", sum := "c4704ccd95cb709663062fc1a4e56bf0544ee47f3db674ccdeddb14dc80273d7", func := "ladderback/ladderbacklaw11.BlockTells", spec := "blockTells", named := ["ladderback/block.rows"], apart := false, laid := [("ladderback/block.rows", laid_ladderback_block_rows)], narrowed := true }
def BlockTellsUptoSaid : Prop := blockTellsUptoRow.holds Tryd.pinned (OpenSpec.upto blockTellsSpec)

/-- 'ladderbacklaw12.OpTells', WHERE WHAT IT READS IS OF BULK AT MOST 1048576: true; the input reads as it did. -/
def opTellsUptoRow : OpenClaim := { program := "ytgmfbmfacodmpaadoor", sum := "c4704ccd95cb709663062fc1a4e56bf0544ee47f3db674ccdeddb14dc80273d7", func := "ladderback/ladderbacklaw12.OpTells", spec := "opTells", named := ["ladderback/op.rows"], apart := false, laid := [("ladderback/op.rows", laid_ladderback_op_rows)], narrowed := true }
def OpTellsUptoSaid : Prop := opTellsUptoRow.holds Tryd.pinned (OpenSpec.upto opTellsSpec)

/-- 'ladderbacklaw04.NumReads', WHERE WHAT IT READS IS OF BULK AT MOST 1048576: true; the input reads as it did. -/
def numReadsUptoRow : OpenClaim := { program := "ytgmfbmfacodmpaadoor", sum := "c4704ccd95cb709663062fc1a4e56bf0544ee47f3db674ccdeddb14dc80273d7", func := "ladderback/ladderbacklaw04.NumReads", spec := "numReads", named := ["ladderback/kind.rows"], apart := false, laid := [("ladderback/kind.rows", laid_ladderback_kind_rows)], narrowed := true }
def NumReadsUptoSaid : Prop := numReadsUptoRow.holds Tryd.pinned (OpenSpec.upto numReadsSpec)

end Rows
end Go.Proofs.YtgmfbmfacodmpaaDoor
