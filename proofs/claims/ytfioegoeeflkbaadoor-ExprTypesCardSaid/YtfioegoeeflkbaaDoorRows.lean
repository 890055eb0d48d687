/-
  NARROWER THAN 'FOR EVERY INPUT', by the rows' own cells (each row's printed sentence says how): ExprTypes: loops, laid · ExprMore: loops, laid · NnfTells: loops, laid · NetTells: loops, laid · NetBack: loops, laid · EmitExprs: loops, laid · StmtTells: loops, laid · StmtErased: loops, laid.
  DERIVED. THE GIVEN ROWS OF THIS SEAT. 8 by the template 'for every input the law returns true; each argument reads behind the call as it read before'; 0 by the template 'total and deterministic' (their statements: YtfioegoeeflkbaaDoorTotals.lean).
  GIVEN WITH THE SEED: the statements are not yours to turn. If you find one false, say at which input.
  Laid BY PROGRAM, IN A SANDBOX (cutbox-rows.mjs): the forced cells as the released guide's own fill.sh prints them over the translation b130aef1217a9541… (all of the seat's roots in one cut). By AI agents, Wed Nov 11 2026. No macro, syntax, notation, axiom, sorry.
-/
import Derived.Test.YtfioegoeeflkbaaDoorChecked
import GoSem.Claim
import GoSem.ClaimJoined
import GoSem.ClaimMapViews
import Derived.JoinedTies
import Derived.KernelRfl
namespace Go.Proofs.YtfioegoeeflkbaaDoor
/- THE CELL 'sum', in the pinned program and in every row, IS THE sha256 OF THE DUMP (.gsa) THAT YtfioegoeeflkbaaDoorProg.lean LOADS. Nothing in Lean hashes anything: it is a label: what it is worth is what the hold of that sum in a sandbox is worth. -/
noncomputable def Tryd.pinned : Pinned := { name := "ytfioegoeeflkbaadoor", sum := "b130aef1217a95416908322b0419df8ad3e37d77e70ba402f8470b8a41aa554d", checked := Tryd.checked }
namespace Rows
def none {H : Type} : Left H := { results := [], args := [] }

/- WHAT THE LISTED PACKAGE-LEVEL VARIABLES READ AS WHEN THE CALL BEGINS. Each datum BY PROGRAM (the guide's laid-datum.mjs) off the statement by which the dump's own 'gosem.cut.vars' lays the variable. In a bare row this is a premise. The card (YtfioegoeeflkbaaDoorCards.lean) ties it to the program's text. -/
def laid_ladderback_alu_goes {H : Type} : DataW H := .agg [.lit (.int .i64 76), .lit (.int .i64 76), .lit (.int .i64 12), .lit (.int .i64 12), .lit (.int .i64 12), .lit (.int .i64 76), .lit (.int .i64 50), .lit (.int .i64 50), .lit (.int .i64 50), .lit (.int .i64 50), .lit (.int .i64 48), .lit (.int .i64 48), .lit (.int .i64 126), .lit (.int .i64 126), .lit (.int .i64 124), .lit (.int .i64 124), .lit (.int .i64 124), .lit (.int .i64 124)]
def laid_ladderback_block_rows {H : Type} : DataW H := .agg [.agg [.lit (.string []), .lit (.int .i64 0), .agg [.agg [.lit (.string []), .lit (.int .i64 0)], .agg [.lit (.string []), .lit (.int .i64 0)], .agg [.lit (.string []), .lit (.int .i64 0)], .agg [.lit (.string []), .lit (.int .i64 0)], .agg [.lit (.string []), .lit (.int .i64 0)], .agg [.lit (.string []), .lit (.int .i64 0)], .agg [.lit (.string []), .lit (.int .i64 0)], .agg [.lit (.string []), .lit (.int .i64 0)]]], .agg [.lit (.string [84, 79, 78]), .lit (.int .i64 2), .agg [.agg [.lit (.string [73, 78]), .lit (.int .i64 1)], .agg [.lit (.string [80, 84]), .lit (.int .i64 6)], .agg [.lit (.string [81]), .lit (.int .i64 1)], .agg [.lit (.string [69, 84]), .lit (.int .i64 6)], .agg [.lit (.string []), .lit (.int .i64 0)], .agg [.lit (.string []), .lit (.int .i64 0)], .agg [.lit (.string []), .lit (.int .i64 0)], .agg [.lit (.string []), .lit (.int .i64 0)]]], .agg [.lit (.string [84, 79, 70]), .lit (.int .i64 2), .agg [.agg [.lit (.string [73, 78]), .lit (.int .i64 1)], .agg [.lit (.string [80, 84]), .lit (.int .i64 6)], .agg [.lit (.string [81]), .lit (.int .i64 1)], .agg [.lit (.string [69, 84]), .lit (.int .i64 6)], .agg [.lit (.string []), .lit (.int .i64 0)], .agg [.lit (.string []), .lit (.int .i64 0)], .agg [.lit (.string []), .lit (.int .i64 0)], .agg [.lit (.string []), .lit (.int .i64 0)]]], .agg [.lit (.string [84, 80]), .lit (.int .i64 2), .agg [.agg [.lit (.string [73, 78]), .lit (.int .i64 1)], .agg [.lit (.string [80, 84]), .lit (.int .i64 6)], .agg [.lit (.string [81]), .lit (.int .i64 1)], .agg [.lit (.string [69, 84]), .lit (.int .i64 6)], .agg [.lit (.string []), .lit (.int .i64 0)], .agg [.lit (.string []), .lit (.int .i64 0)], .agg [.lit (.string []), .lit (.int .i64 0)], .agg [.lit (.string []), .lit (.int .i64 0)]]], .agg [.lit (.string [67, 84, 85]), .lit (.int .i64 3), .agg [.agg [.lit (.string [67, 85]), .lit (.int .i64 1)], .agg [.lit (.string [82]), .lit (.int .i64 1)], .agg [.lit (.string [80, 86]), .lit (.int .i64 2)], .agg [.lit (.string [81]), .lit (.int .i64 1)], .agg [.lit (.string [67, 86]), .lit (.int .i64 2)], .agg [.lit (.string []), .lit (.int .i64 0)], .agg [.lit (.string []), .lit (.int .i64 0)], .agg [.lit (.string []), .lit (.int .i64 0)]]], .agg [.lit (.string [67, 84, 68]), .lit (.int .i64 3), .agg [.agg [.lit (.string [67, 68]), .lit (.int .i64 1)], .agg [.lit (.string [76, 68]), .lit (.int .i64 1)], .agg [.lit (.string [80, 86]), .lit (.int .i64 2)], .agg [.lit (.string [81]), .lit (.int .i64 1)], .agg [.lit (.string [67, 86]), .lit (.int .i64 2)], .agg [.lit (.string []), .lit (.int .i64 0)], .agg [.lit (.string []), .lit (.int .i64 0)], .agg [.lit (.string []), .lit (.int .i64 0)]]], .agg [.lit (.string [67, 84, 85, 68]), .lit (.int .i64 5), .agg [.agg [.lit (.string [67, 85]), .lit (.int .i64 1)], .agg [.lit (.string [67, 68]), .lit (.int .i64 1)], .agg [.lit (.string [82]), .lit (.int .i64 1)], .agg [.lit (.string [76, 68]), .lit (.int .i64 1)], .agg [.lit (.string [80, 86]), .lit (.int .i64 2)], .agg [.lit (.string [81, 85]), .lit (.int .i64 1)], .agg [.lit (.string [81, 68]), .lit (.int .i64 1)], .agg [.lit (.string [67, 86]), .lit (.int .i64 2)]]], .agg [.lit (.string [82, 95, 84, 82, 73, 71]), .lit (.int .i64 1), .agg [.agg [.lit (.string [67, 76, 75]), .lit (.int .i64 1)], .agg [.lit (.string [81]), .lit (.int .i64 1)], .agg [.lit (.string []), .lit (.int .i64 0)], .agg [.lit (.string []), .lit (.int .i64 0)], .agg [.lit (.string []), .lit (.int .i64 0)], .agg [.lit (.string []), .lit (.int .i64 0)], .agg [.lit (.string []), .lit (.int .i64 0)], .agg [.lit (.string []), .lit (.int .i64 0)]]], .agg [.lit (.string [70, 95, 84, 82, 73, 71]), .lit (.int .i64 1), .agg [.agg [.lit (.string [67, 76, 75]), .lit (.int .i64 1)], .agg [.lit (.string [81]), .lit (.int .i64 1)], .agg [.lit (.string []), .lit (.int .i64 0)], .agg [.lit (.string []), .lit (.int .i64 0)], .agg [.lit (.string []), .lit (.int .i64 0)], .agg [.lit (.string []), .lit (.int .i64 0)], .agg [.lit (.string []), .lit (.int .i64 0)], .agg [.lit (.string []), .lit (.int .i64 0)]]]]

/-- 'ladderbacklaw26.ExprTypes': WHATEVER THE INPUT: true; the input reads as it did. -/
def exprTypesSpec : ChangeSpec := { name := "exprTypes", fn := fun _ => fun
  | [d1, d2, d3] => { results := [.lit (.bool true)], args := [d1, d2, d3] }
  | _ => none }
def exprTypesRow : OpenClaim := { program := "ytfioegoeeflkbaadoor", sum := "b130aef1217a95416908322b0419df8ad3e37d77e70ba402f8470b8a41aa554d", func := "ladderback/ladderbacklaw26.ExprTypes", spec := "exprTypes", unfollowed := true, recurses := true, named := ["ladderback/block.rows", "ladderback/alu.goes"], loops := true, apart := false, laid := [("ladderback/alu.goes", laid_ladderback_alu_goes), ("ladderback/block.rows", laid_ladderback_block_rows)] }
def ExprTypesSaid : Prop := exprTypesRow.holds Tryd.pinned (OpenSpec.ofChange exprTypesSpec)

/-- ITS FALSE NEIGHBOUR: 'it returns false'. Refute it at one input. -/
def exprTypesWrong : ChangeSpec := { name := "exprTypes", fn := fun _ => fun
  | [d1, d2, d3] => { results := [.lit (.bool false)], args := [d1, d2, d3] }
  | _ => none }
def ExprTypesWrongFalsely : Prop := exprTypesRow.holds Tryd.pinned (OpenSpec.ofChange exprTypesWrong)

/-- 'ladderbacklaw26.ExprMore': WHATEVER THE INPUT: true; the input reads as it did. -/
def exprMoreSpec : ChangeSpec := { name := "exprMore", fn := fun _ => fun
  | [d1, d2, d3] => { results := [.lit (.bool true)], args := [d1, d2, d3] }
  | _ => none }
def exprMoreRow : OpenClaim := { program := "ytfioegoeeflkbaadoor", sum := "b130aef1217a95416908322b0419df8ad3e37d77e70ba402f8470b8a41aa554d", func := "ladderback/ladderbacklaw26.ExprMore", spec := "exprMore", unfollowed := true, recurses := true, named := ["ladderback/block.rows", "ladderback/alu.goes"], loops := true, apart := false, laid := [("ladderback/alu.goes", laid_ladderback_alu_goes), ("ladderback/block.rows", laid_ladderback_block_rows)] }
def ExprMoreSaid : Prop := exprMoreRow.holds Tryd.pinned (OpenSpec.ofChange exprMoreSpec)

/-- ITS FALSE NEIGHBOUR: 'it returns false'. Refute it at one input. -/
def exprMoreWrong : ChangeSpec := { name := "exprMore", fn := fun _ => fun
  | [d1, d2, d3] => { results := [.lit (.bool false)], args := [d1, d2, d3] }
  | _ => none }
def ExprMoreWrongFalsely : Prop := exprMoreRow.holds Tryd.pinned (OpenSpec.ofChange exprMoreWrong)

/-- 'ladderbacklaw43.NnfTells': WHATEVER THE INPUT: true; the input reads as it did. -/
def nnfTellsSpec : ChangeSpec := { name := "nnfTells", fn := fun _ => fun
  | [d1, d2] => { results := [.lit (.bool true)], args := [d1, d2] }
  | _ => none }
def nnfTellsRow : OpenClaim := { program := "ytfioegoeeflkbaadoor", sum := "b130aef1217a95416908322b0419df8ad3e37d77e70ba402f8470b8a41aa554d", func := "ladderback/ladderbacklaw43.NnfTells", spec := "nnfTells", unfollowed := true, recurses := true, named := ["ladderback/block.rows", "ladderback/alu.goes"], loops := true, apart := false, laid := [("ladderback/alu.goes", laid_ladderback_alu_goes), ("ladderback/block.rows", laid_ladderback_block_rows)] }
def NnfTellsSaid : Prop := nnfTellsRow.holds Tryd.pinned (OpenSpec.ofChange nnfTellsSpec)

/-- ITS FALSE NEIGHBOUR: 'it returns false'. Refute it at one input. -/
def nnfTellsWrong : ChangeSpec := { name := "nnfTells", fn := fun _ => fun
  | [d1, d2] => { results := [.lit (.bool false)], args := [d1, d2] }
  | _ => none }
def NnfTellsWrongFalsely : Prop := nnfTellsRow.holds Tryd.pinned (OpenSpec.ofChange nnfTellsWrong)

/-- 'ladderbacklaw44.NetTells': WHATEVER THE INPUT: true; the input reads as it did. -/
def netTellsSpec : ChangeSpec := { name := "netTells", fn := fun _ => fun
  | [d1, d2, d3] => { results := [.lit (.bool true)], args := [d1, d2, d3] }
  | _ => none }
def netTellsRow : OpenClaim := { program := "ytfioegoeeflkbaadoor", sum := "b130aef1217a95416908322b0419df8ad3e37d77e70ba402f8470b8a41aa554d", func := "ladderback/ladderbacklaw44.NetTells", spec := "netTells", unfollowed := true, recurses := true, named := ["ladderback/block.rows", "ladderback/alu.goes"], loops := true, apart := false, laid := [("ladderback/alu.goes", laid_ladderback_alu_goes), ("ladderback/block.rows", laid_ladderback_block_rows)] }
def NetTellsSaid : Prop := netTellsRow.holds Tryd.pinned (OpenSpec.ofChange netTellsSpec)

/-- ITS FALSE NEIGHBOUR: 'it returns false'. Refute it at one input. -/
def netTellsWrong : ChangeSpec := { name := "netTells", fn := fun _ => fun
  | [d1, d2, d3] => { results := [.lit (.bool false)], args := [d1, d2, d3] }
  | _ => none }
def NetTellsWrongFalsely : Prop := netTellsRow.holds Tryd.pinned (OpenSpec.ofChange netTellsWrong)

/-- 'ladderbacklaw44.NetBack': WHATEVER THE INPUT: true; the input reads as it did. -/
def netBackSpec : ChangeSpec := { name := "netBack", fn := fun _ => fun
  | [d1, d2] => { results := [.lit (.bool true)], args := [d1, d2] }
  | _ => none }
def netBackRow : OpenClaim := { program := "ytfioegoeeflkbaadoor", sum := "b130aef1217a95416908322b0419df8ad3e37d77e70ba402f8470b8a41aa554d", func := "ladderback/ladderbacklaw44.NetBack", spec := "netBack", unfollowed := true, recurses := true, named := ["ladderback/block.rows", "ladderback/alu.goes"], loops := true, apart := false, laid := [("ladderback/alu.goes", laid_ladderback_alu_goes), ("ladderback/block.rows", laid_ladderback_block_rows)] }
def NetBackSaid : Prop := netBackRow.holds Tryd.pinned (OpenSpec.ofChange netBackSpec)

/-- ITS FALSE NEIGHBOUR: 'it returns false'. Refute it at one input. -/
def netBackWrong : ChangeSpec := { name := "netBack", fn := fun _ => fun
  | [d1, d2] => { results := [.lit (.bool false)], args := [d1, d2] }
  | _ => none }
def NetBackWrongFalsely : Prop := netBackRow.holds Tryd.pinned (OpenSpec.ofChange netBackWrong)

/-- 'ladderbacklaw37.EmitExprs': WHATEVER THE INPUT: true; the input reads as it did. -/
def emitExprsSpec : ChangeSpec := { name := "emitExprs", fn := fun _ => fun
  | [d1, d2, d3] => { results := [.lit (.bool true)], args := [d1, d2, d3] }
  | _ => none }
def emitExprsRow : OpenClaim := { program := "ytfioegoeeflkbaadoor", sum := "b130aef1217a95416908322b0419df8ad3e37d77e70ba402f8470b8a41aa554d", func := "ladderback/ladderbacklaw37.EmitExprs", spec := "emitExprs", unfollowed := true, recurses := true, named := ["ladderback/block.rows", "ladderback/alu.goes"], loops := true, apart := false, laid := [("ladderback/alu.goes", laid_ladderback_alu_goes), ("ladderback/block.rows", laid_ladderback_block_rows)] }
def EmitExprsSaid : Prop := emitExprsRow.holds Tryd.pinned (OpenSpec.ofChange emitExprsSpec)

/-- ITS FALSE NEIGHBOUR: 'it returns false'. Refute it at one input. -/
def emitExprsWrong : ChangeSpec := { name := "emitExprs", fn := fun _ => fun
  | [d1, d2, d3] => { results := [.lit (.bool false)], args := [d1, d2, d3] }
  | _ => none }
def EmitExprsWrongFalsely : Prop := emitExprsRow.holds Tryd.pinned (OpenSpec.ofChange emitExprsWrong)

/-- 'ladderbacklaw28.StmtTells': WHATEVER THE INPUT: true; the input reads as it did. -/
def stmtTellsSpec : ChangeSpec := { name := "stmtTells", fn := fun _ => fun
  | [d1, d2] => { results := [.lit (.bool true)], args := [d1, d2] }
  | _ => none }
def stmtTellsRow : OpenClaim := { program := "ytfioegoeeflkbaadoor", sum := "b130aef1217a95416908322b0419df8ad3e37d77e70ba402f8470b8a41aa554d", func := "ladderback/ladderbacklaw28.StmtTells", spec := "stmtTells", unfollowed := true, recurses := true, named := ["ladderback/block.rows", "ladderback/alu.goes"], loops := true, apart := false, laid := [("ladderback/alu.goes", laid_ladderback_alu_goes), ("ladderback/block.rows", laid_ladderback_block_rows)] }
def StmtTellsSaid : Prop := stmtTellsRow.holds Tryd.pinned (OpenSpec.ofChange stmtTellsSpec)

/-- ITS FALSE NEIGHBOUR: 'it returns false'. Refute it at one input. -/
def stmtTellsWrong : ChangeSpec := { name := "stmtTells", fn := fun _ => fun
  | [d1, d2] => { results := [.lit (.bool false)], args := [d1, d2] }
  | _ => none }
def StmtTellsWrongFalsely : Prop := stmtTellsRow.holds Tryd.pinned (OpenSpec.ofChange stmtTellsWrong)

/-- 'ladderbacklaw28.StmtErased': WHATEVER THE INPUT: true; the input reads as it did. -/
def stmtErasedSpec : ChangeSpec := { name := "stmtErased", fn := fun _ => fun
  | [d1, d2, d3] => { results := [.lit (.bool true)], args := [d1, d2, d3] }
  | _ => none }
def stmtErasedRow : OpenClaim := { program := "ytfioegoeeflkbaadoor", sum := "b130aef1217a95416908322b0419df8ad3e37d77e70ba402f8470b8a41aa554d", func := "ladderback/ladderbacklaw28.StmtErased", spec := "stmtErased", unfollowed := true, recurses := true, named := ["ladderback/block.rows", "ladderback/alu.goes"], loops := true, apart := false, laid := [("ladderback/alu.goes", laid_ladderback_alu_goes), ("ladderback/block.rows", laid_ladderback_block_rows)] }
def StmtErasedSaid : Prop := stmtErasedRow.holds Tryd.pinned (OpenSpec.ofChange stmtErasedSpec)

/-- ITS FALSE NEIGHBOUR: 'it returns false'. Refute it at one input. -/
def stmtErasedWrong : ChangeSpec := { name := "stmtErased", fn := fun _ => fun
  | [d1, d2, d3] => { results := [.lit (.bool false)], args := [d1, d2, d3] }
  | _ => none }
def StmtErasedWrongFalsely : Prop := stmtErasedRow.holds Tryd.pinned (OpenSpec.ofChange stmtErasedWrong)

/- THE SECOND FORM. 'bulk': how many values and letters a reading holds, each counted each time it is reached (what is shared counts as often as it is met; a slice's spare places count too). A statement '..UptoSaid' is the law's where the arguments, and the package variables that the reading takes, are together of bulk at most 1048576: NARROWER than '..Said'. Prove '..Said' where nothing that the law and all that it calls make is longer than what came in: it says more and counts as full. Else prove '..UptoSaid'. A law counts once. -/
mutual
def uptoBulk {H : Type} : DataW H → Nat
  | .lit (.string bytes) => bytes.length + 1
  | .lit _ => 1
  | .nil => 1
  | .ptr d => uptoBulk d + 1
  | .slice elems spare => uptoBulkAll elems + uptoBulkAll spare + 1
  | .agg parts => uptoBulkAll parts + 1
  | .iface _ d => uptoBulk d + 1
  | .map entries => uptoBulkEntries entries + 1
  | .held _ => 1
def uptoBulkAll {H : Type} : List (DataW H) → Nat
  | [] => 0
  | d :: r => uptoBulk d + uptoBulkAll r
def uptoBulkEntries {H : Type} : List (Lit × DataW H) → Nat
  | [] => 0
  | x :: r => uptoBulkEntry x + uptoBulkEntries r
def uptoBulkEntry {H : Type} : Lit × DataW H → Nat
  | (.string bytes, d) => bytes.length + uptoBulk d + 1
  | (_, d) => uptoBulk d + 1
 end
def uptoSmall : (H : Type) → List (DataW H) → Bool := fun _ ds => decide (uptoBulkAll ds ≤ 1048576)
def OpenSpec.upto (s : _root_.Go.ChangeSpec) : _root_.Go.OpenSpec := { _root_.Go.OpenSpec.ofChange s with cond := some uptoSmall }

/-- 'ladderbacklaw26.ExprTypes', WHERE WHAT IT READS IS OF BULK AT MOST 1048576: true; the input reads as it did. -/
def exprTypesUptoRow : OpenClaim := { program := "ytfioegoeeflkbaadoor", sum := "b130aef1217a95416908322b0419df8ad3e37d77e70ba402f8470b8a41aa554d", func := "ladderback/ladderbacklaw26.ExprTypes", spec := "exprTypes", unfollowed := true, recurses := true, named := ["ladderback/block.rows", "ladderback/alu.goes"], loops := true, apart := false, laid := [("ladderback/alu.goes", laid_ladderback_alu_goes), ("ladderback/block.rows", laid_ladderback_block_rows)], narrowed := true }
def ExprTypesUptoSaid : Prop := exprTypesUptoRow.holds Tryd.pinned (OpenSpec.upto exprTypesSpec)

/-- 'ladderbacklaw26.ExprMore', WHERE WHAT IT READS IS OF BULK AT MOST 1048576: true; the input reads as it did. -/
def exprMoreUptoRow : OpenClaim := { program := "ytfioegoeeflkbaadoor", sum := "b130aef1217a95416908322b0419df8ad3e37d77e70ba402f8470b8a41aa554d", func := "ladderback/ladderbacklaw26.ExprMore", spec := "exprMore", unfollowed := true, recurses := true, named := ["ladderback/block.rows", "ladderback/alu.goes"], loops := true, apart := false, laid := [("ladderback/alu.goes", laid_ladderback_alu_goes), ("ladderback/block.rows", laid_ladderback_block_rows)], narrowed := true }
def ExprMoreUptoSaid : Prop := exprMoreUptoRow.holds Tryd.pinned (OpenSpec.upto exprMoreSpec)

/-- 'ladderbacklaw43.NnfTells', WHERE WHAT IT READS IS OF BULK AT MOST 1048576: true; the input reads as it did. -/
def nnfTellsUptoRow : OpenClaim := { program := "ytfioegoeeflkbaadoor", sum := "b130aef1217a95416908322b0419df8ad3e37d77e70ba402f8470b8a41aa554d", func := "ladderback/ladderbacklaw43.NnfTells", spec := "nnfTells", unfollowed := true, recurses := true, named := ["ladderback/block.rows", "ladderback/alu.goes"], loops := true, apart := false, laid := [("ladderback/alu.goes", laid_ladderback_alu_goes), ("ladderback/block.rows", laid_ladderback_block_rows)], narrowed := true }
def NnfTellsUptoSaid : Prop := nnfTellsUptoRow.holds Tryd.pinned (OpenSpec.upto nnfTellsSpec)

/-- 'ladderbacklaw44.NetTells', WHERE WHAT IT READS IS OF BULK AT MOST 1048576: true; the input reads as it did. -/
def netTellsUptoRow : OpenClaim := { program := "ytfioegoeeflkbaadoor", sum := "b130aef1217a95416908322b0419df8ad3e37d77e70ba402f8470b8a41aa554d", func := "ladderback/ladderbacklaw44.NetTells", spec := "netTells", unfollowed := true, recurses := true, named := ["ladderback/block.rows", "ladderback/alu.goes"], loops := true, apart := false, laid := [("ladderback/alu.goes", laid_ladderback_alu_goes), ("ladderback/block.rows", laid_ladderback_block_rows)], narrowed := true }
def NetTellsUptoSaid : Prop := netTellsUptoRow.holds Tryd.pinned (OpenSpec.upto netTellsSpec)

/-- 'ladderbacklaw44.NetBack', WHERE WHAT IT READS IS OF BULK AT MOST 1048576: true; the input reads as it did. -/
def netBackUptoRow : OpenClaim := { program := "ytfioegoeeflkbaadoor", sum := "b130aef1217a95416908322b0419df8ad3e37d77e70ba402f8470b8a41aa554d", func := "ladderback/ladderbacklaw44.NetBack", spec := "netBack", unfollowed := true, recurses := true, named := ["ladderback/block.rows", "ladderback/alu.goes"], loops := true, apart := false, laid := [("ladderback/alu.goes", laid_ladderback_alu_goes), ("ladderback/block.rows", laid_ladderback_block_rows)], narrowed := true }
def NetBackUptoSaid : Prop := netBackUptoRow.holds Tryd.pinned (OpenSpec.upto netBackSpec)

/-- 'ladderbacklaw37.EmitExprs', WHERE WHAT IT READS IS OF BULK AT MOST 1048576: true; the input reads as it did. -/
def emitExprsUptoRow : OpenClaim := { program := "ytfioegoeeflkbaadoor", sum := "b130aef1217a95416908322b0419df8ad3e37d77e70ba402f8470b8a41aa554d", func := "ladderback/ladderbacklaw37.EmitExprs", spec := "emitExprs", unfollowed := true, recurses := true, named := ["ladderback/block.rows", "ladderback/alu.goes"], loops := true, apart := false, laid := [("ladderback/alu.goes", laid_ladderback_alu_goes), ("ladderback/block.rows", laid_ladderback_block_rows)], narrowed := true }
def EmitExprsUptoSaid : Prop := emitExprsUptoRow.holds Tryd.pinned (OpenSpec.upto emitExprsSpec)

/-- 'ladderbacklaw28.StmtTells', WHERE WHAT IT READS IS OF BULK AT MOST 1048576: true; the input reads as it did. -/
def stmtTellsUptoRow : OpenClaim := { program := "ytfioegoeeflkbaadoor", sum := "b130aef1217a95416908322b0419df8ad3e37d77e70ba402f8470b8a41aa554d", func := "ladderback/ladderbacklaw28.StmtTells", spec := "stmtTells", unfollowed := true, recurses := true, named := ["ladderback/block.rows", "ladderback/alu.goes"], loops := true, apart := false, laid := [("ladderback/alu.goes", laid_ladderback_alu_goes), ("ladderback/block.rows", laid_ladderback_block_rows)], narrowed := true }
def StmtTellsUptoSaid : Prop := stmtTellsUptoRow.holds Tryd.pinned (OpenSpec.upto stmtTellsSpec)

/-- 'ladderbacklaw28.StmtErased', WHERE WHAT IT READS IS OF BULK AT MOST 1048576: true; the input reads as it did. -/
def stmtErasedUptoRow : OpenClaim := { program := "ytfioegoeeflkbaadoor", sum := "b130aef1217a95416908322b0419df8ad3e37d77e70ba402f8470b8a41aa554d", func := "ladderback/ladderbacklaw28.StmtErased", spec := "stmtErased", unfollowed := true, recurses := true, named := ["ladderback/block.rows", "ladderback/alu.goes"], loops := true, apart := false, laid := [("ladderback/alu.goes", laid_ladderback_alu_goes), ("ladderback/block.rows", laid_ladderback_block_rows)], narrowed := true }
def StmtErasedUptoSaid : Prop := stmtErasedUptoRow.holds Tryd.pinned (OpenSpec.upto stmtErasedSpec)

end Rows
end Go.Proofs.YtfioegoeeflkbaaDoor
