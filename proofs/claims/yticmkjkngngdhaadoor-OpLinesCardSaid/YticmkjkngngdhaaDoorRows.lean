/-
  NARROWER THAN 'FOR EVERY INPUT', by the rows' own cells (each row's printed sentence says how): BlockRuns: laid · BlockKeeps: laid · NumValues: laid · NumBack: laid · OpLines: laid · OpBack: laid · ExprTypes: loops, laid · ExprMore: loops, laid · ExprTells: loops, laid.
  DERIVED. THE GIVEN ROWS OF THIS SEAT. 9 by the template 'for every input the law returns true; each argument reads behind the call as it read before'; 0 by the template 'total and deterministic' (their statements: YticmkjkngngdhaaDoorTotals.lean).
  GIVEN WITH THE SEED: the statements are not yours to turn. If you find one false, say at which input.
  Laid BY PROGRAM, IN A SANDBOX (cutbox-rows.mjs): the forced cells as the released guide's own fill.sh prints them over the translation 215370ca637f9ed1… (all of the seat's roots in one cut). By AI agents, Wed Nov 11 2026. No macro, syntax, notation, axiom, sorry.
-/
import Derived.Test.YticmkjkngngdhaaDoorChecked
import GoSem.PinnedTables
import GoSem.Claim
import GoSem.ClaimJoined
import GoSem.ClaimMapViews
import Derived.JoinedTies
import Derived.KernelRfl
namespace Go.Proofs.YticmkjkngngdhaaDoor
/- THE CELL 'sum', in the pinned program and in every row, IS THE sha256 OF THE DUMP (.gsa) THAT YticmkjkngngdhaaDoorProg.lean LOADS. Nothing in Lean hashes anything: it is a label: what it is worth is what the hold of that sum in a sandbox is worth. -/
noncomputable def Tryd.pinned : Pinned := { name := "yticmkjkngngdhaadoor", sum := "215370ca637f9ed191a97d1d8a4e67299b47b9db0ea9be694ef889e86f1bb6e7", checked := Tryd.checked }
namespace Rows
def none {H : Type} : Left H := { results := [], args := [] }

/- WHAT THE LISTED PACKAGE-LEVEL VARIABLES READ AS WHEN THE CALL BEGINS. Each datum BY PROGRAM (the guide's laid-datum.mjs) off the statement by which the dump's own 'gosem.cut.vars' lays the variable. In a bare row this is a premise. The card (YticmkjkngngdhaaDoorCards.lean) ties it to the program's text. -/
def laid_ladderback_block_rows {H : Type} : DataW H := .agg [.agg [.lit (.string []), .lit (.int .i64 0), .agg [.agg [.lit (.string []), .lit (.int .i64 0)], .agg [.lit (.string []), .lit (.int .i64 0)], .agg [.lit (.string []), .lit (.int .i64 0)], .agg [.lit (.string []), .lit (.int .i64 0)], .agg [.lit (.string []), .lit (.int .i64 0)], .agg [.lit (.string []), .lit (.int .i64 0)], .agg [.lit (.string []), .lit (.int .i64 0)], .agg [.lit (.string []), .lit (.int .i64 0)]]], .agg [.lit (.string [84, 79, 78]), .lit (.int .i64 2), .agg [.agg [.lit (.string [73, 78]), .lit (.int .i64 1)], .agg [.lit (.string [80, 84]), .lit (.int .i64 6)], .agg [.lit (.string [81]), .lit (.int .i64 1)], .agg [.lit (.string [69, 84]), .lit (.int .i64 6)], .agg [.lit (.string []), .lit (.int .i64 0)], .agg [.lit (.string []), .lit (.int .i64 0)], .agg [.lit (.string []), .lit (.int .i64 0)], .agg [.lit (.string []), .lit (.int .i64 0)]]], .agg [.lit (.string [84, 79, 70]), .lit (.int .i64 2), .agg [.agg [.lit (.string [73, 78]), .lit (.int .i64 1)], .agg [.lit (.string [80, 84]), .lit (.int .i64 6)], .agg [.lit (.string [81]), .lit (.int .i64 1)], .agg [.lit (.string [69, 84]), .lit (.int .i64 6)], .agg [.lit (.string []), .lit (.int .i64 0)], .agg [.lit (.string []), .lit (.int .i64 0)], .agg [.lit (.string []), .lit (.int .i64 0)], .agg [.lit (.string []), .lit (.int .i64 0)]]], .agg [.lit (.string [84, 80]), .lit (.int .i64 2), .agg [.agg [.lit (.string [73, 78]), .lit (.int .i64 1)], .agg [.lit (.string [80, 84]), .lit (.int .i64 6)], .agg [.lit (.string [81]), .lit (.int .i64 1)], .agg [.lit (.string [69, 84]), .lit (.int .i64 6)], .agg [.lit (.string []), .lit (.int .i64 0)], .agg [.lit (.string []), .lit (.int .i64 0)], .agg [.lit (.string []), .lit (.int .i64 0)], .agg [.lit (.string []), .lit (.int .i64 0)]]], .agg [.lit (.string [67, 84, 85]), .lit (.int .i64 3), .agg [.agg [.lit (.string [67, 85]), .lit (.int .i64 1)], .agg [.lit (.string [82]), .lit (.int .i64 1)], .agg [.lit (.string [80, 86]), .lit (.int .i64 2)], .agg [.lit (.string [81]), .lit (.int .i64 1)], .agg [.lit (.string [67, 86]), .lit (.int .i64 2)], .agg [.lit (.string []), .lit (.int .i64 0)], .agg [.lit (.string []), .lit (.int .i64 0)], .agg [.lit (.string []), .lit (.int .i64 0)]]], .agg [.lit (.string [67, 84, 68]), .lit (.int .i64 3), .agg [.agg [.lit (.string [67, 68]), .lit (.int .i64 1)], .agg [.lit (.string [76, 68]), .lit (.int .i64 1)], .agg [.lit (.string [80, 86]), .lit (.int .i64 2)], .agg [.lit (.string [81]), .lit (.int .i64 1)], .agg [.lit (.string [67, 86]), .lit (.int .i64 2)], .agg [.lit (.string []), .lit (.int .i64 0)], .agg [.lit (.string []), .lit (.int .i64 0)], .agg [.lit (.string []), .lit (.int .i64 0)]]], .agg [.lit (.string [67, 84, 85, 68]), .lit (.int .i64 5), .agg [.agg [.lit (.string [67, 85]), .lit (.int .i64 1)], .agg [.lit (.string [67, 68]), .lit (.int .i64 1)], .agg [.lit (.string [82]), .lit (.int .i64 1)], .agg [.lit (.string [76, 68]), .lit (.int .i64 1)], .agg [.lit (.string [80, 86]), .lit (.int .i64 2)], .agg [.lit (.string [81, 85]), .lit (.int .i64 1)], .agg [.lit (.string [81, 68]), .lit (.int .i64 1)], .agg [.lit (.string [67, 86]), .lit (.int .i64 2)]]], .agg [.lit (.string [82, 95, 84, 82, 73, 71]), .lit (.int .i64 1), .agg [.agg [.lit (.string [67, 76, 75]), .lit (.int .i64 1)], .agg [.lit (.string [81]), .lit (.int .i64 1)], .agg [.lit (.string []), .lit (.int .i64 0)], .agg [.lit (.string []), .lit (.int .i64 0)], .agg [.lit (.string []), .lit (.int .i64 0)], .agg [.lit (.string []), .lit (.int .i64 0)], .agg [.lit (.string []), .lit (.int .i64 0)], .agg [.lit (.string []), .lit (.int .i64 0)]]], .agg [.lit (.string [70, 95, 84, 82, 73, 71]), .lit (.int .i64 1), .agg [.agg [.lit (.string [67, 76, 75]), .lit (.int .i64 1)], .agg [.lit (.string [81]), .lit (.int .i64 1)], .agg [.lit (.string []), .lit (.int .i64 0)], .agg [.lit (.string []), .lit (.int .i64 0)], .agg [.lit (.string []), .lit (.int .i64 0)], .agg [.lit (.string []), .lit (.int .i64 0)], .agg [.lit (.string []), .lit (.int .i64 0)], .agg [.lit (.string []), .lit (.int .i64 0)]]]]
def laid_ladderback_kind_rows {H : Type} : DataW H := .agg [.agg [.lit (.string []), .lit (.int .i64 0), .lit (.bool false)], .agg [.lit (.string [66, 79, 79, 76]), .lit (.int .i64 1), .lit (.bool false)], .agg [.lit (.string [73, 78, 84]), .lit (.int .i64 16), .lit (.bool true)], .agg [.lit (.string [68, 73, 78, 84]), .lit (.int .i64 32), .lit (.bool true)], .agg [.lit (.string [87, 79, 82, 68]), .lit (.int .i64 16), .lit (.bool false)], .agg [.lit (.string [68, 87, 79, 82, 68]), .lit (.int .i64 32), .lit (.bool false)], .agg [.lit (.string [84, 73, 77, 69]), .lit (.int .i64 64), .lit (.bool true)]]
def laid_unicode_utf8_acceptRanges {H : Type} : DataW H := .agg [.agg [.lit (.int .u8 128), .lit (.int .u8 191)], .agg [.lit (.int .u8 160), .lit (.int .u8 191)], .agg [.lit (.int .u8 128), .lit (.int .u8 159)], .agg [.lit (.int .u8 144), .lit (.int .u8 191)], .agg [.lit (.int .u8 128), .lit (.int .u8 143)], .agg [.lit (.int .u8 0), .lit (.int .u8 0)], .agg [.lit (.int .u8 0), .lit (.int .u8 0)], .agg [.lit (.int .u8 0), .lit (.int .u8 0)], .agg [.lit (.int .u8 0), .lit (.int .u8 0)], .agg [.lit (.int .u8 0), .lit (.int .u8 0)], .agg [.lit (.int .u8 0), .lit (.int .u8 0)], .agg [.lit (.int .u8 0), .lit (.int .u8 0)], .agg [.lit (.int .u8 0), .lit (.int .u8 0)], .agg [.lit (.int .u8 0), .lit (.int .u8 0)], .agg [.lit (.int .u8 0), .lit (.int .u8 0)], .agg [.lit (.int .u8 0), .lit (.int .u8 0)]]
def laid_ladderback_op_rows {H : Type} : DataW H := .agg [.agg [.lit (.string [110, 111, 112]), .lit (.int .i64 10), .lit (.int .i64 10)], .agg [.lit (.string [99, 111, 110, 115, 116]), .lit (.int .i64 1), .lit (.int .i64 0)], .agg [.lit (.string [108, 111, 97, 100]), .lit (.int .i64 2), .lit (.int .i64 0)], .agg [.lit (.string [115, 116, 111, 114, 101]), .lit (.int .i64 2), .lit (.int .i64 0)], .agg [.lit (.string [103, 101, 116]), .lit (.int .i64 3), .lit (.int .i64 0)], .agg [.lit (.string [112, 117, 116]), .lit (.int .i64 3), .lit (.int .i64 0)], .agg [.lit (.string [105, 116, 101, 109]), .lit (.int .i64 2), .lit (.int .i64 0)], .agg [.lit (.string [107, 101, 101, 112]), .lit (.int .i64 2), .lit (.int .i64 0)], .agg [.lit (.string [97, 100, 100]), .lit (.int .i64 4), .lit (.int .i64 0)], .agg [.lit (.string [115, 117, 98]), .lit (.int .i64 4), .lit (.int .i64 0)], .agg [.lit (.string [109, 117, 108]), .lit (.int .i64 4), .lit (.int .i64 0)], .agg [.lit (.string [100, 105, 118]), .lit (.int .i64 4), .lit (.int .i64 0)], .agg [.lit (.string [109, 111, 100]), .lit (.int .i64 4), .lit (.int .i64 0)], .agg [.lit (.string [110, 101, 103]), .lit (.int .i64 4), .lit (.int .i64 0)], .agg [.lit (.string [97, 110, 100]), .lit (.int .i64 4), .lit (.int .i64 0)], .agg [.lit (.string [111, 114]), .lit (.int .i64 4), .lit (.int .i64 0)], .agg [.lit (.string [120, 111, 114]), .lit (.int .i64 4), .lit (.int .i64 0)], .agg [.lit (.string [110, 111, 116]), .lit (.int .i64 4), .lit (.int .i64 0)], .agg [.lit (.string [115, 104, 108]), .lit (.int .i64 4), .lit (.int .i64 0)], .agg [.lit (.string [115, 104, 114]), .lit (.int .i64 4), .lit (.int .i64 0)], .agg [.lit (.string [101, 113]), .lit (.int .i64 4), .lit (.int .i64 0)], .agg [.lit (.string [110, 101]), .lit (.int .i64 4), .lit (.int .i64 0)], .agg [.lit (.string [108, 116]), .lit (.int .i64 4), .lit (.int .i64 0)], .agg [.lit (.string [108, 101]), .lit (.int .i64 4), .lit (.int .i64 0)], .agg [.lit (.string [103, 116]), .lit (.int .i64 4), .lit (.int .i64 0)], .agg [.lit (.string [103, 101]), .lit (.int .i64 4), .lit (.int .i64 0)], .agg [.lit (.string [99, 111, 110, 118]), .lit (.int .i64 4), .lit (.int .i64 4)], .agg [.lit (.string [100, 117, 112]), .lit (.int .i64 0), .lit (.int .i64 0)], .agg [.lit (.string [112, 111, 112]), .lit (.int .i64 0), .lit (.int .i64 0)], .agg [.lit (.string [115, 119, 97, 112]), .lit (.int .i64 0), .lit (.int .i64 0)], .agg [.lit (.string [106, 117, 109, 112]), .lit (.int .i64 5), .lit (.int .i64 10)], .agg [.lit (.string [102, 97, 108, 115, 101]), .lit (.int .i64 5), .lit (.int .i64 10)], .agg [.lit (.string [115, 119, 105, 116, 99, 104]), .lit (.int .i64 6), .lit (.int .i64 10)], .agg [.lit (.string [99, 97, 108, 108]), .lit (.int .i64 7), .lit (.int .i64 0)], .agg [.lit (.string [114, 101, 116]), .lit (.int .i64 0), .lit (.int .i64 0)], .agg [.lit (.string [115, 101, 116]), .lit (.int .i64 8), .lit (.int .i64 9)], .agg [.lit (.string [114, 117, 110]), .lit (.int .i64 8), .lit (.int .i64 0)], .agg [.lit (.string [111, 117, 116]), .lit (.int .i64 8), .lit (.int .i64 9)]]
/-- One of Go's own tables, pinned by name: the form's constant. -/
def laid_unicode_utf8_first : DataW Unit := Go.Pinned.utf8First
def laid_ladderback_alu_goes {H : Type} : DataW H := .agg [.lit (.int .i64 76), .lit (.int .i64 76), .lit (.int .i64 12), .lit (.int .i64 12), .lit (.int .i64 12), .lit (.int .i64 76), .lit (.int .i64 50), .lit (.int .i64 50), .lit (.int .i64 50), .lit (.int .i64 50), .lit (.int .i64 48), .lit (.int .i64 48), .lit (.int .i64 126), .lit (.int .i64 126), .lit (.int .i64 124), .lit (.int .i64 124), .lit (.int .i64 124), .lit (.int .i64 124)]

/-- 'ladderbacklaw11.BlockRuns': WHATEVER THE INPUT: true; the input reads as it did. -/
def blockRunsSpec : ChangeSpec := { name := "blockRuns", fn := fun _ => fun
  | [d1, d2, d3] => { results := [.lit (.bool true)], args := [d1, d2, d3] }
  | _ => none }
def blockRunsRow : OpenClaim := { program := "yticmkjkngngdhaadoor", sum := "215370ca637f9ed191a97d1d8a4e67299b47b9db0ea9be694ef889e86f1bb6e7", func := "ladderback/ladderbacklaw11.BlockRuns", spec := "blockRuns", unfollowed := true, recurses := true, named := ["ladderback/block.rows"], apart := false, laid := [("ladderback/block.rows", laid_ladderback_block_rows)] }
def BlockRunsSaid : Prop := blockRunsRow.holds Tryd.pinned (OpenSpec.ofChange blockRunsSpec)

/-- ITS FALSE NEIGHBOUR: 'it returns false'. Refute it at one input. -/
def blockRunsWrong : ChangeSpec := { name := "blockRuns", fn := fun _ => fun
  | [d1, d2, d3] => { results := [.lit (.bool false)], args := [d1, d2, d3] }
  | _ => none }
def BlockRunsWrongFalsely : Prop := blockRunsRow.holds Tryd.pinned (OpenSpec.ofChange blockRunsWrong)

/-- 'ladderbacklaw11.BlockKeeps': WHATEVER THE INPUT: true; the input reads as it did. -/
def blockKeepsSpec : ChangeSpec := { name := "blockKeeps", fn := fun _ => fun
  | [d1, d2, d3] => { results := [.lit (.bool true)], args := [d1, d2, d3] }
  | _ => none }
def blockKeepsRow : OpenClaim := { program := "yticmkjkngngdhaadoor", sum := "215370ca637f9ed191a97d1d8a4e67299b47b9db0ea9be694ef889e86f1bb6e7", func := "ladderback/ladderbacklaw11.BlockKeeps", spec := "blockKeeps", unfollowed := true, recurses := true, named := ["ladderback/block.rows"], apart := false, laid := [("ladderback/block.rows", laid_ladderback_block_rows)] }
def BlockKeepsSaid : Prop := blockKeepsRow.holds Tryd.pinned (OpenSpec.ofChange blockKeepsSpec)

/-- ITS FALSE NEIGHBOUR: 'it returns false'. Refute it at one input. -/
def blockKeepsWrong : ChangeSpec := { name := "blockKeeps", fn := fun _ => fun
  | [d1, d2, d3] => { results := [.lit (.bool false)], args := [d1, d2, d3] }
  | _ => none }
def BlockKeepsWrongFalsely : Prop := blockKeepsRow.holds Tryd.pinned (OpenSpec.ofChange blockKeepsWrong)

/-- 'ladderbacklaw04.NumValues': WHATEVER THE INPUT: true; the input reads as it did. -/
def numValuesSpec : ChangeSpec := { name := "numValues", fn := fun _ => fun
  | [d1, d2, d3] => { results := [.lit (.bool true)], args := [d1, d2, d3] }
  | _ => none }
def numValuesRow : OpenClaim := { program := "yticmkjkngngdhaadoor", sum := "215370ca637f9ed191a97d1d8a4e67299b47b9db0ea9be694ef889e86f1bb6e7", func := "ladderback/ladderbacklaw04.NumValues", spec := "numValues", inPlace := ["internal/bytealg.IndexByteString", "internal/bytealg.IndexString"], named := ["ladderback/kind.rows", "internal/bytealg.MaxLen"], apart := false, laid := [("ladderback/kind.rows", laid_ladderback_kind_rows)] }
def NumValuesSaid : Prop := numValuesRow.holds Tryd.pinned (OpenSpec.ofChange numValuesSpec)

/-- ITS FALSE NEIGHBOUR: 'it returns false'. Refute it at one input. -/
def numValuesWrong : ChangeSpec := { name := "numValues", fn := fun _ => fun
  | [d1, d2, d3] => { results := [.lit (.bool false)], args := [d1, d2, d3] }
  | _ => none }
def NumValuesWrongFalsely : Prop := numValuesRow.holds Tryd.pinned (OpenSpec.ofChange numValuesWrong)

/-- 'ladderbacklaw04.NumBack': WHATEVER THE INPUT: true; the input reads as it did. -/
def numBackSpec : ChangeSpec := { name := "numBack", fn := fun _ => fun
  | [d1, d2, d3] => { results := [.lit (.bool true)], args := [d1, d2, d3] }
  | _ => none }
def numBackRow : OpenClaim := { program := "yticmkjkngngdhaadoor", sum := "215370ca637f9ed191a97d1d8a4e67299b47b9db0ea9be694ef889e86f1bb6e7", func := "ladderback/ladderbacklaw04.NumBack", spec := "numBack", inPlace := ["internal/bytealg.IndexByteString", "internal/bytealg.IndexString"], named := ["ladderback/kind.rows", "internal/bytealg.MaxLen"], apart := false, laid := [("ladderback/kind.rows", laid_ladderback_kind_rows)] }
def NumBackSaid : Prop := numBackRow.holds Tryd.pinned (OpenSpec.ofChange numBackSpec)

/-- ITS FALSE NEIGHBOUR: 'it returns false'. Refute it at one input. -/
def numBackWrong : ChangeSpec := { name := "numBack", fn := fun _ => fun
  | [d1, d2, d3] => { results := [.lit (.bool false)], args := [d1, d2, d3] }
  | _ => none }
def NumBackWrongFalsely : Prop := numBackRow.holds Tryd.pinned (OpenSpec.ofChange numBackWrong)

/-- 'ladderbacklaw12.OpLines': WHATEVER THE INPUT: true; the input reads as it did. -/
def opLinesSpec : ChangeSpec := { name := "opLines", fn := fun _ => fun
  | [d1, d2] => { results := [.lit (.bool true)], args := [d1, d2] }
  | _ => none }
def opLinesRow : OpenClaim := { program := "yticmkjkngngdhaadoor", sum := "215370ca637f9ed191a97d1d8a4e67299b47b9db0ea9be694ef889e86f1bb6e7", func := "ladderback/ladderbacklaw12.OpLines", spec := "opLines", inPlace := ["internal/bytealg.CountString", "internal/bytealg.IndexByteString", "internal/bytealg.IndexString"], named := ["ladderback/op.rows", "unicode/utf8.first", "unicode/utf8.acceptRanges", "internal/bytealg.MaxLen"], apart := false, laid := [("unicode/utf8.acceptRanges", laid_unicode_utf8_acceptRanges), ("ladderback/op.rows", laid_ladderback_op_rows), ("unicode/utf8.first", laid_unicode_utf8_first)] }
def OpLinesSaid : Prop := opLinesRow.holds Tryd.pinned (OpenSpec.ofChange opLinesSpec)

/-- ITS FALSE NEIGHBOUR: 'it returns false'. Refute it at one input. -/
def opLinesWrong : ChangeSpec := { name := "opLines", fn := fun _ => fun
  | [d1, d2] => { results := [.lit (.bool false)], args := [d1, d2] }
  | _ => none }
def OpLinesWrongFalsely : Prop := opLinesRow.holds Tryd.pinned (OpenSpec.ofChange opLinesWrong)

/-- 'ladderbacklaw12.OpBack': WHATEVER THE INPUT: true; the input reads as it did. -/
def opBackSpec : ChangeSpec := { name := "opBack", fn := fun _ => fun
  | [d] => { results := [.lit (.bool true)], args := [d] }
  | _ => none }
def opBackRow : OpenClaim := { program := "yticmkjkngngdhaadoor", sum := "215370ca637f9ed191a97d1d8a4e67299b47b9db0ea9be694ef889e86f1bb6e7", func := "ladderback/ladderbacklaw12.OpBack", spec := "opBack", inPlace := ["internal/bytealg.CountString", "internal/bytealg.IndexByteString", "internal/bytealg.IndexString"], named := ["ladderback/op.rows", "unicode/utf8.first", "unicode/utf8.acceptRanges", "internal/bytealg.MaxLen"], apart := false, laid := [("unicode/utf8.acceptRanges", laid_unicode_utf8_acceptRanges), ("ladderback/op.rows", laid_ladderback_op_rows), ("unicode/utf8.first", laid_unicode_utf8_first)] }
def OpBackSaid : Prop := opBackRow.holds Tryd.pinned (OpenSpec.ofChange opBackSpec)

/-- ITS FALSE NEIGHBOUR: 'it returns false'. Refute it at one input. -/
def opBackWrong : ChangeSpec := { name := "opBack", fn := fun _ => fun
  | [d] => { results := [.lit (.bool false)], args := [d] }
  | _ => none }
def OpBackWrongFalsely : Prop := opBackRow.holds Tryd.pinned (OpenSpec.ofChange opBackWrong)

/-- 'ladderbacklaw26.ExprTypes': WHATEVER THE INPUT: true; the input reads as it did. -/
def exprTypesSpec : ChangeSpec := { name := "exprTypes", fn := fun _ => fun
  | [d1, d2, d3] => { results := [.lit (.bool true)], args := [d1, d2, d3] }
  | _ => none }
def exprTypesRow : OpenClaim := { program := "yticmkjkngngdhaadoor", sum := "215370ca637f9ed191a97d1d8a4e67299b47b9db0ea9be694ef889e86f1bb6e7", func := "ladderback/ladderbacklaw26.ExprTypes", spec := "exprTypes", unfollowed := true, recurses := true, named := ["ladderback/block.rows", "ladderback/alu.goes"], loops := true, apart := false, laid := [("ladderback/alu.goes", laid_ladderback_alu_goes), ("ladderback/block.rows", laid_ladderback_block_rows)] }
def ExprTypesSaid : Prop := exprTypesRow.holds Tryd.pinned (OpenSpec.ofChange exprTypesSpec)

/-- ITS FALSE NEIGHBOUR: 'it returns false'. Refute it at one input. -/
def exprTypesWrong : ChangeSpec := { name := "exprTypes", fn := fun _ => fun
  | [d1, d2, d3] => { results := [.lit (.bool false)], args := [d1, d2, d3] }
  | _ => none }
def ExprTypesWrongFalsely : Prop := exprTypesRow.holds Tryd.pinned (OpenSpec.ofChange exprTypesWrong)

/-- 'ladderbacklaw26.ExprMore': WHATEVER THE INPUT: true; the input reads as it did. -/
def exprMoreSpec : ChangeSpec := { name := "exprMore", fn := fun _ => fun
  | [d1, d2, d3] => { results := [.lit (.bool true)], args := [d1, d2, d3] }
  | _ => none }
def exprMoreRow : OpenClaim := { program := "yticmkjkngngdhaadoor", sum := "215370ca637f9ed191a97d1d8a4e67299b47b9db0ea9be694ef889e86f1bb6e7", func := "ladderback/ladderbacklaw26.ExprMore", spec := "exprMore", unfollowed := true, recurses := true, named := ["ladderback/block.rows", "ladderback/alu.goes"], loops := true, apart := false, laid := [("ladderback/alu.goes", laid_ladderback_alu_goes), ("ladderback/block.rows", laid_ladderback_block_rows)] }
def ExprMoreSaid : Prop := exprMoreRow.holds Tryd.pinned (OpenSpec.ofChange exprMoreSpec)

/-- ITS FALSE NEIGHBOUR: 'it returns false'. Refute it at one input. -/
def exprMoreWrong : ChangeSpec := { name := "exprMore", fn := fun _ => fun
  | [d1, d2, d3] => { results := [.lit (.bool false)], args := [d1, d2, d3] }
  | _ => none }
def ExprMoreWrongFalsely : Prop := exprMoreRow.holds Tryd.pinned (OpenSpec.ofChange exprMoreWrong)

/-- 'ladderbacklaw26.ExprTells': WHATEVER THE INPUT: true; the input reads as it did. -/
def exprTellsSpec : ChangeSpec := { name := "exprTells", fn := fun _ => fun
  | [d1, d2] => { results := [.lit (.bool true)], args := [d1, d2] }
  | _ => none }
def exprTellsRow : OpenClaim := { program := "yticmkjkngngdhaadoor", sum := "215370ca637f9ed191a97d1d8a4e67299b47b9db0ea9be694ef889e86f1bb6e7", func := "ladderback/ladderbacklaw26.ExprTells", spec := "exprTells", unfollowed := true, recurses := true, named := ["ladderback/block.rows", "ladderback/alu.goes"], loops := true, apart := false, laid := [("ladderback/alu.goes", laid_ladderback_alu_goes), ("ladderback/block.rows", laid_ladderback_block_rows)] }
def ExprTellsSaid : Prop := exprTellsRow.holds Tryd.pinned (OpenSpec.ofChange exprTellsSpec)

/-- ITS FALSE NEIGHBOUR: 'it returns false'. Refute it at one input. -/
def exprTellsWrong : ChangeSpec := { name := "exprTells", fn := fun _ => fun
  | [d1, d2] => { results := [.lit (.bool false)], args := [d1, d2] }
  | _ => none }
def ExprTellsWrongFalsely : Prop := exprTellsRow.holds Tryd.pinned (OpenSpec.ofChange exprTellsWrong)

/- THE SECOND FORM. 'bulk': how many values and letters a reading holds, each counted each time it is reached (what is shared counts as often as it is met; a slice's spare places count too). A statement '..UptoSaid' is the law's where the arguments, and the package variables that the reading takes, are together of bulk at most 1048576: NARROWER than '..Said'. Prove '..Said' where nothing that the law and all that it calls make is longer than what came in: it says more and counts as full. Else prove '..UptoSaid'. A law counts once. -/
mutual
def uptoBulk {H : Type} : DataW H → Nat
  | .lit (.string bytes) => bytes.length + 1
  | .lit _ => 1
  | .nil => 1
  | .ptr d => uptoBulk d + 1
  | .slice elems spare => uptoBulkAll elems + uptoBulkAll spare + 1
  | .agg parts => uptoBulkAll parts + 1
  | .iface _ d => uptoBulk d + 1
  | .map entries => uptoBulkEntries entries + 1
  | .held _ => 1
def uptoBulkAll {H : Type} : List (DataW H) → Nat
  | [] => 0
  | d :: r => uptoBulk d + uptoBulkAll r
def uptoBulkEntries {H : Type} : List (Lit × DataW H) → Nat
  | [] => 0
  | x :: r => uptoBulkEntry x + uptoBulkEntries r
def uptoBulkEntry {H : Type} : Lit × DataW H → Nat
  | (.string bytes, d) => bytes.length + uptoBulk d + 1
  | (_, d) => uptoBulk d + 1
 end
def uptoSmall : (H : Type) → List (DataW H) → Bool := fun _ ds => decide (uptoBulkAll ds ≤ 1048576)
def OpenSpec.upto (s : _root_.Go.ChangeSpec) : _root_.Go.OpenSpec := { _root_.Go.OpenSpec.ofChange s with cond := some uptoSmall }

/-- 'ladderbacklaw11.BlockRuns', WHERE WHAT IT READS IS OF BULK AT MOST 1048576: true; the input reads as it did. -/
def blockRunsUptoRow : OpenClaim := { program := "yticmkjkngngdhaadoor", sum := "215370ca637f9ed191a97d1d8a4e67299b47b9db0ea9be694ef889e86f1bb6e7", func := "ladderback/ladderbacklaw11.BlockRuns", spec := "blockRuns", unfollowed := true, recurses := true, named := ["ladderback/block.rows"], apart := false, laid := [("ladderback/block.rows", laid_ladderback_block_rows)], narrowed := true }
def BlockRunsUptoSaid : Prop := blockRunsUptoRow.holds Tryd.pinned (OpenSpec.upto blockRunsSpec)

/-- 'ladderbacklaw11.BlockKeeps', WHERE WHAT IT READS IS OF BULK AT MOST 1048576: true; the input reads as it did. -/
def blockKeepsUptoRow : OpenClaim := { program := "yticmkjkngngdhaadoor", sum := "215370ca637f9ed191a97d1d8a4e67299b47b9db0ea9be694ef889e86f1bb6e7", func := "ladderback/ladderbacklaw11.BlockKeeps", spec := "blockKeeps", unfollowed := true, recurses := true, named := ["ladderback/block.rows"], apart := false, laid := [("ladderback/block.rows", laid_ladderback_block_rows)], narrowed := true }
def BlockKeepsUptoSaid : Prop := blockKeepsUptoRow.holds Tryd.pinned (OpenSpec.upto blockKeepsSpec)

/-- 'ladderbacklaw04.NumValues', WHERE WHAT IT READS IS OF BULK AT MOST 1048576: true; the input reads as it did. -/
def numValuesUptoRow : OpenClaim := { program := "yticmkjkngngdhaadoor", sum := "215370ca637f9ed191a97d1d8a4e67299b47b9db0ea9be694ef889e86f1bb6e7", func := "ladderback/ladderbacklaw04.NumValues", spec := "numValues", inPlace := ["internal/bytealg.IndexByteString", "internal/bytealg.IndexString"], named := ["ladderback/kind.rows", "internal/bytealg.MaxLen"], apart := false, laid := [("ladderback/kind.rows", laid_ladderback_kind_rows)], narrowed := true }
def NumValuesUptoSaid : Prop := numValuesUptoRow.holds Tryd.pinned (OpenSpec.upto numValuesSpec)

/-- 'ladderbacklaw04.NumBack', WHERE WHAT IT READS IS OF BULK AT MOST 1048576: true; the input reads as it did. -/
def numBackUptoRow : OpenClaim := { program := "yticmkjkngngdhaadoor", sum := "215370ca637f9ed191a97d1d8a4e67299b47b9db0ea9be694ef889e86f1bb6e7", func := "ladderback/ladderbacklaw04.NumBack", spec := "numBack", inPlace := ["internal/bytealg.IndexByteString", "internal/bytealg.IndexString"], named := ["ladderback/kind.rows", "internal/bytealg.MaxLen"], apart := false, laid := [("ladderback/kind.rows", laid_ladderback_kind_rows)], narrowed := true }
def NumBackUptoSaid : Prop := numBackUptoRow.holds Tryd.pinned (OpenSpec.upto numBackSpec)

/-- 'ladderbacklaw12.OpLines', WHERE WHAT IT READS IS OF BULK AT MOST 1048576: true; the input reads as it did. -/
def opLinesUptoRow : OpenClaim := { program := "yticmkjkngngdhaadoor", sum := "215370ca637f9ed191a97d1d8a4e67299b47b9db0ea9be694ef889e86f1bb6e7", func := "ladderback/ladderbacklaw12.OpLines", spec := "opLines", inPlace := ["internal/bytealg.CountString", "internal/bytealg.IndexByteString", "internal/bytealg.IndexString"], named := ["ladderback/op.rows", "unicode/utf8.first", "unicode/utf8.acceptRanges", "internal/bytealg.MaxLen"], apart := false, laid := [("unicode/utf8.acceptRanges", laid_unicode_utf8_acceptRanges), ("ladderback/op.rows", laid_ladderback_op_rows), ("unicode/utf8.first", laid_unicode_utf8_first)], narrowed := true }
def OpLinesUptoSaid : Prop := opLinesUptoRow.holds Tryd.pinned (OpenSpec.upto opLinesSpec)

/-- 'ladderbacklaw12.OpBack', WHERE WHAT IT READS IS OF BULK AT MOST 1048576: true; the input reads as it did. -/
def opBackUptoRow : OpenClaim := { program := "yticmkjkngngdhaadoor", sum := "215370ca637f9ed191a97d1d8a4e67299b47b9db0ea9be694ef889e86f1bb6e7", func := "ladderback/ladderbacklaw12.OpBack", spec := "opBack", inPlace := ["internal/bytealg.CountString", "internal/bytealg.IndexByteString", "internal/bytealg.IndexString"], named := ["ladderback/op.rows", "unicode/utf8.first", "unicode/utf8.acceptRanges", "internal/bytealg.MaxLen"], apart := false, laid := [("unicode/utf8.acceptRanges", laid_unicode_utf8_acceptRanges), ("ladderback/op.rows", laid_ladderback_op_rows), ("unicode/utf8.first", laid_unicode_utf8_first)], narrowed := true }
def OpBackUptoSaid : Prop := opBackUptoRow.holds Tryd.pinned (OpenSpec.upto opBackSpec)

/-- 'ladderbacklaw26.ExprTypes', WHERE WHAT IT READS IS OF BULK AT MOST 1048576: true; the input reads as it did. -/
def exprTypesUptoRow : OpenClaim := { program := "yticmkjkngngdhaadoor", sum := "215370ca637f9ed191a97d1d8a4e67299b47b9db0ea9be694ef889e86f1bb6e7", func := "ladderback/ladderbacklaw26.ExprTypes", spec := "exprTypes", unfollowed := true, recurses := true, named := ["ladderback/block.rows", "ladderback/alu.goes"], loops := true, apart := false, laid := [("ladderback/alu.goes", laid_ladderback_alu_goes), ("ladderback/block.rows", laid_ladderback_block_rows)], narrowed := true }
def ExprTypesUptoSaid : Prop := exprTypesUptoRow.holds Tryd.pinned (OpenSpec.upto exprTypesSpec)

/-- 'ladderbacklaw26.ExprMore', WHERE WHAT IT READS IS OF BULK AT MOST 1048576: true; the input reads as it did. -/
def exprMoreUptoRow : OpenClaim := { program := "yticmkjkngngdhaadoor", sum := "215370ca637f9ed191a97d1d8a4e67299b47b9db0ea9be694ef889e86f1bb6e7", func := "ladderback/ladderbacklaw26.ExprMore", spec := "exprMore", unfollowed := true, recurses := true, named := ["ladderback/block.rows", "ladderback/alu.goes"], loops := true, apart := false, laid := [("ladderback/alu.goes", laid_ladderback_alu_goes), ("ladderback/block.rows", laid_ladderback_block_rows)], narrowed := true }
def ExprMoreUptoSaid : Prop := exprMoreUptoRow.holds Tryd.pinned (OpenSpec.upto exprMoreSpec)

/-- 'ladderbacklaw26.ExprTells', WHERE WHAT IT READS IS OF BULK AT MOST 1048576: true; the input reads as it did. -/
def exprTellsUptoRow : OpenClaim := { program := "yticmkjkngngdhaadoor", sum := "215370ca637f9ed191a97d1d8a4e67299b47b9db0ea9be694ef889e86f1bb6e7", func := "ladderback/ladderbacklaw26.ExprTells", spec := "exprTells", unfollowed := true, recurses := true, named := ["ladderback/block.rows", "ladderback/alu.goes"], loops := true, apart := false, laid := [("ladderback/alu.goes", laid_ladderback_alu_goes), ("ladderback/block.rows", laid_ladderback_block_rows)], narrowed := true }
def ExprTellsUptoSaid : Prop := exprTellsUptoRow.holds Tryd.pinned (OpenSpec.upto exprTellsSpec)

end Rows
end Go.Proofs.YticmkjkngngdhaaDoor
