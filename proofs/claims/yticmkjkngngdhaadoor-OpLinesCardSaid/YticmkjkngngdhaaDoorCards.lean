/-
  DERIVED. GIVEN WITH THE SEED: THE CARDS: each row of YticmkjkngngdhaaDoorRows.lean that lists a variable, with what it lists TIED to the program's text (the seventh form; the later family's looks); each row that meets fmt, with fmt's text TOLD by the authors' own Lean function (tested against real Go, not proved from fmt's source: count such statements apart). THE CARD IS WHAT COUNTS. Prove the row's statement (the work); the ties are given (YticmkjkngngdhaaDoorTie.lean); close each card by the builder's one call (the guide's Derived/Test/ToyasCard.lean, 'card_holds'). Laid BY PROGRAM, IN A SANDBOX (cutbox-door.mjs). By AI agents, Wed Nov 11 2026. No macro, syntax, notation, axiom, sorry.
-/
import Derived.Test.YticmkjkngngdhaaDoorRows
import GoSem.ClaimSeven
namespace Go.Proofs.YticmkjkngngdhaaDoor
namespace Rows

/-- THE TIED CARD OF 'ladderbacklaw11.BlockRuns'. -/
def blockRunsCard : Claim7 := { stood := { row := blockRunsRow, standIns := [], harness := (true, "a801095e632dcd7e9f74a9d1993aeaa6d66a16f403870aaae4e59138f8bf4aad"), looks := false }, kinds := [], alts := [], laidByText := true, laidKinds := [.data], laidTests := true, laidLooks := .later }
def BlockRunsCardSaid : Prop := Claim7.holds Tryd.pinned (.plain (OpenSpec.ofChange blockRunsSpec)) blockRunsCard

/-- THE TIED CARD OF 'ladderbacklaw11.BlockKeeps'. -/
def blockKeepsCard : Claim7 := { stood := { row := blockKeepsRow, standIns := [], harness := (true, "a801095e632dcd7e9f74a9d1993aeaa6d66a16f403870aaae4e59138f8bf4aad"), looks := false }, kinds := [], alts := [], laidByText := true, laidKinds := [.data], laidTests := true, laidLooks := .later }
def BlockKeepsCardSaid : Prop := Claim7.holds Tryd.pinned (.plain (OpenSpec.ofChange blockKeepsSpec)) blockKeepsCard

/-- THE TIED CARD OF 'ladderbacklaw04.NumValues'. -/
def numValuesCard : Claim7 := { stood := { row := numValuesRow, standIns := [], harness := (true, "a801095e632dcd7e9f74a9d1993aeaa6d66a16f403870aaae4e59138f8bf4aad"), looks := false }, kinds := [], alts := [], laidByText := true, laidKinds := [.data], laidTests := true, laidLooks := .later }
def NumValuesCardSaid : Prop := Claim7.holds Tryd.pinned (.plain (OpenSpec.ofChange numValuesSpec)) numValuesCard

/-- THE TIED CARD OF 'ladderbacklaw04.NumBack'. -/
def numBackCard : Claim7 := { stood := { row := numBackRow, standIns := [], harness := (true, "a801095e632dcd7e9f74a9d1993aeaa6d66a16f403870aaae4e59138f8bf4aad"), looks := false }, kinds := [], alts := [], laidByText := true, laidKinds := [.data], laidTests := true, laidLooks := .later }
def NumBackCardSaid : Prop := Claim7.holds Tryd.pinned (.plain (OpenSpec.ofChange numBackSpec)) numBackCard

/-- THE TIED CARD OF 'ladderbacklaw12.OpLines'. -/
def opLinesCard : Claim7 := { stood := { row := opLinesRow, standIns := [], harness := (true, "a801095e632dcd7e9f74a9d1993aeaa6d66a16f403870aaae4e59138f8bf4aad"), looks := false }, kinds := [], alts := [], laidByText := true, laidKinds := [.data, .data, .pinned], laidTests := true, laidLooks := .later }
def OpLinesCardSaid : Prop := Claim7.holds Tryd.pinned (.plain (OpenSpec.ofChange opLinesSpec)) opLinesCard

/-- THE TIED CARD OF 'ladderbacklaw12.OpBack'. -/
def opBackCard : Claim7 := { stood := { row := opBackRow, standIns := [], harness := (true, "a801095e632dcd7e9f74a9d1993aeaa6d66a16f403870aaae4e59138f8bf4aad"), looks := false }, kinds := [], alts := [], laidByText := true, laidKinds := [.data, .data, .pinned], laidTests := true, laidLooks := .later }
def OpBackCardSaid : Prop := Claim7.holds Tryd.pinned (.plain (OpenSpec.ofChange opBackSpec)) opBackCard

/-- THE TIED CARD OF 'ladderbacklaw26.ExprTypes'. -/
def exprTypesCard : Claim7 := { stood := { row := exprTypesRow, standIns := [], harness := (true, "a801095e632dcd7e9f74a9d1993aeaa6d66a16f403870aaae4e59138f8bf4aad"), looks := false }, kinds := [], alts := [], laidByText := true, laidKinds := [.data, .data], laidTests := true, laidLooks := .later }
def ExprTypesCardSaid : Prop := Claim7.holds Tryd.pinned (.plain (OpenSpec.ofChange exprTypesSpec)) exprTypesCard

/-- THE TIED CARD OF 'ladderbacklaw26.ExprMore'. -/
def exprMoreCard : Claim7 := { stood := { row := exprMoreRow, standIns := [], harness := (true, "a801095e632dcd7e9f74a9d1993aeaa6d66a16f403870aaae4e59138f8bf4aad"), looks := false }, kinds := [], alts := [], laidByText := true, laidKinds := [.data, .data], laidTests := true, laidLooks := .later }
def ExprMoreCardSaid : Prop := Claim7.holds Tryd.pinned (.plain (OpenSpec.ofChange exprMoreSpec)) exprMoreCard

/-- THE TIED CARD OF 'ladderbacklaw26.ExprTells'. -/
def exprTellsCard : Claim7 := { stood := { row := exprTellsRow, standIns := [], harness := (true, "a801095e632dcd7e9f74a9d1993aeaa6d66a16f403870aaae4e59138f8bf4aad"), looks := false }, kinds := [], alts := [], laidByText := true, laidKinds := [.data, .data], laidTests := true, laidLooks := .later }
def ExprTellsCardSaid : Prop := Claim7.holds Tryd.pinned (.plain (OpenSpec.ofChange exprTellsSpec)) exprTellsCard

/-- THE SECOND FORM's CARD OF 'ladderbacklaw11.BlockRuns'. -/
def blockRunsUptoCard : Claim7 := { stood := { row := blockRunsUptoRow, standIns := [], harness := (true, "a801095e632dcd7e9f74a9d1993aeaa6d66a16f403870aaae4e59138f8bf4aad"), looks := false }, kinds := [], alts := [], laidByText := true, laidKinds := [.data], laidTests := true, laidLooks := .later }
def BlockRunsUptoCardSaid : Prop := Claim7.holds Tryd.pinned (.plain (OpenSpec.upto blockRunsSpec)) blockRunsUptoCard

/-- THE SECOND FORM's CARD OF 'ladderbacklaw11.BlockKeeps'. -/
def blockKeepsUptoCard : Claim7 := { stood := { row := blockKeepsUptoRow, standIns := [], harness := (true, "a801095e632dcd7e9f74a9d1993aeaa6d66a16f403870aaae4e59138f8bf4aad"), looks := false }, kinds := [], alts := [], laidByText := true, laidKinds := [.data], laidTests := true, laidLooks := .later }
def BlockKeepsUptoCardSaid : Prop := Claim7.holds Tryd.pinned (.plain (OpenSpec.upto blockKeepsSpec)) blockKeepsUptoCard

/-- THE SECOND FORM's CARD OF 'ladderbacklaw04.NumValues'. -/
def numValuesUptoCard : Claim7 := { stood := { row := numValuesUptoRow, standIns := [], harness := (true, "a801095e632dcd7e9f74a9d1993aeaa6d66a16f403870aaae4e59138f8bf4aad"), looks := false }, kinds := [], alts := [], laidByText := true, laidKinds := [.data], laidTests := true, laidLooks := .later }
def NumValuesUptoCardSaid : Prop := Claim7.holds Tryd.pinned (.plain (OpenSpec.upto numValuesSpec)) numValuesUptoCard

/-- THE SECOND FORM's CARD OF 'ladderbacklaw04.NumBack'. -/
def numBackUptoCard : Claim7 := { stood := { row := numBackUptoRow, standIns := [], harness := (true, "a801095e632dcd7e9f74a9d1993aeaa6d66a16f403870aaae4e59138f8bf4aad"), looks := false }, kinds := [], alts := [], laidByText := true, laidKinds := [.data], laidTests := true, laidLooks := .later }
def NumBackUptoCardSaid : Prop := Claim7.holds Tryd.pinned (.plain (OpenSpec.upto numBackSpec)) numBackUptoCard

/-- THE SECOND FORM's CARD OF 'ladderbacklaw12.OpLines'. -/
def opLinesUptoCard : Claim7 := { stood := { row := opLinesUptoRow, standIns := [], harness := (true, "a801095e632dcd7e9f74a9d1993aeaa6d66a16f403870aaae4e59138f8bf4aad"), looks := false }, kinds := [], alts := [], laidByText := true, laidKinds := [.data, .data, .pinned], laidTests := true, laidLooks := .later }
def OpLinesUptoCardSaid : Prop := Claim7.holds Tryd.pinned (.plain (OpenSpec.upto opLinesSpec)) opLinesUptoCard

/-- THE SECOND FORM's CARD OF 'ladderbacklaw12.OpBack'. -/
def opBackUptoCard : Claim7 := { stood := { row := opBackUptoRow, standIns := [], harness := (true, "a801095e632dcd7e9f74a9d1993aeaa6d66a16f403870aaae4e59138f8bf4aad"), looks := false }, kinds := [], alts := [], laidByText := true, laidKinds := [.data, .data, .pinned], laidTests := true, laidLooks := .later }
def OpBackUptoCardSaid : Prop := Claim7.holds Tryd.pinned (.plain (OpenSpec.upto opBackSpec)) opBackUptoCard

/-- THE SECOND FORM's CARD OF 'ladderbacklaw26.ExprTypes'. -/
def exprTypesUptoCard : Claim7 := { stood := { row := exprTypesUptoRow, standIns := [], harness := (true, "a801095e632dcd7e9f74a9d1993aeaa6d66a16f403870aaae4e59138f8bf4aad"), looks := false }, kinds := [], alts := [], laidByText := true, laidKinds := [.data, .data], laidTests := true, laidLooks := .later }
def ExprTypesUptoCardSaid : Prop := Claim7.holds Tryd.pinned (.plain (OpenSpec.upto exprTypesSpec)) exprTypesUptoCard

/-- THE SECOND FORM's CARD OF 'ladderbacklaw26.ExprMore'. -/
def exprMoreUptoCard : Claim7 := { stood := { row := exprMoreUptoRow, standIns := [], harness := (true, "a801095e632dcd7e9f74a9d1993aeaa6d66a16f403870aaae4e59138f8bf4aad"), looks := false }, kinds := [], alts := [], laidByText := true, laidKinds := [.data, .data], laidTests := true, laidLooks := .later }
def ExprMoreUptoCardSaid : Prop := Claim7.holds Tryd.pinned (.plain (OpenSpec.upto exprMoreSpec)) exprMoreUptoCard

/-- THE SECOND FORM's CARD OF 'ladderbacklaw26.ExprTells'. -/
def exprTellsUptoCard : Claim7 := { stood := { row := exprTellsUptoRow, standIns := [], harness := (true, "a801095e632dcd7e9f74a9d1993aeaa6d66a16f403870aaae4e59138f8bf4aad"), looks := false }, kinds := [], alts := [], laidByText := true, laidKinds := [.data, .data], laidTests := true, laidLooks := .later }
def ExprTellsUptoCardSaid : Prop := Claim7.holds Tryd.pinned (.plain (OpenSpec.upto exprTellsSpec)) exprTellsUptoCard
end Rows
end Go.Proofs.YticmkjkngngdhaaDoor
