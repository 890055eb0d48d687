/-
  DERIVED. GIVEN WITH THE SEED: THE CARDS: each row of YthldpihpjekleaaDoorRows.lean that lists a variable, with what it lists TIED to the program's text (the seventh form; the later family's looks); each row that meets fmt, with fmt's text TOLD by the authors' own Lean function (tested against real Go, not proved from fmt's source: count such statements apart). THE CARD IS WHAT COUNTS. Prove the row's statement (the work); the ties are given (YthldpihpjekleaaDoorTie.lean); close each card by the builder's one call (the guide's Derived/Test/ToyasCard.lean, 'card_holds'). Laid BY PROGRAM, IN A SANDBOX (cutbox-door.mjs). By AI agents, Wed Nov 11 2026. No macro, syntax, notation, axiom, sorry.
-/
import Derived.Test.YthldpihpjekleaaDoorRows
import GoSem.ClaimSeven
namespace Go.Proofs.YthldpihpjekleaaDoor
namespace Rows

/-- THE TIED CARD OF 'ladderbacklaw11.BlockRuns'. -/
def blockRunsCard : Claim7 := { stood := { row := blockRunsRow, standIns := [], harness := (true, "c8833ab8188c7e0ebeb1fbaa1190da48d519bfc7d05312d9ffb96bc381578913"), looks := false }, kinds := [], alts := [], laidByText := true, laidKinds := [.data], laidTests := true, laidLooks := .later }
def BlockRunsCardSaid : Prop := Claim7.holds Tryd.pinned (.plain (OpenSpec.ofChange blockRunsSpec)) blockRunsCard

/-- THE TIED CARD OF 'ladderbacklaw11.BlockKeeps'. -/
def blockKeepsCard : Claim7 := { stood := { row := blockKeepsRow, standIns := [], harness := (true, "c8833ab8188c7e0ebeb1fbaa1190da48d519bfc7d05312d9ffb96bc381578913"), looks := false }, kinds := [], alts := [], laidByText := true, laidKinds := [.data], laidTests := true, laidLooks := .later }
def BlockKeepsCardSaid : Prop := Claim7.holds Tryd.pinned (.plain (OpenSpec.ofChange blockKeepsSpec)) blockKeepsCard

/-- THE TIED CARD OF 'ladderbacklaw26.ExprTypes'. -/
def exprTypesCard : Claim7 := { stood := { row := exprTypesRow, standIns := [], harness := (true, "c8833ab8188c7e0ebeb1fbaa1190da48d519bfc7d05312d9ffb96bc381578913"), looks := false }, kinds := [], alts := [], laidByText := true, laidKinds := [.data, .data], laidTests := true, laidLooks := .later }
def ExprTypesCardSaid : Prop := Claim7.holds Tryd.pinned (.plain (OpenSpec.ofChange exprTypesSpec)) exprTypesCard

/-- THE TIED CARD OF 'ladderbacklaw26.ExprMore'. -/
def exprMoreCard : Claim7 := { stood := { row := exprMoreRow, standIns := [], harness := (true, "c8833ab8188c7e0ebeb1fbaa1190da48d519bfc7d05312d9ffb96bc381578913"), looks := false }, kinds := [], alts := [], laidByText := true, laidKinds := [.data, .data], laidTests := true, laidLooks := .later }
def ExprMoreCardSaid : Prop := Claim7.holds Tryd.pinned (.plain (OpenSpec.ofChange exprMoreSpec)) exprMoreCard

/-- THE TIED CARD OF 'ladderbacklaw28.StmtTells'. -/
def stmtTellsCard : Claim7 := { stood := { row := stmtTellsRow, standIns := [], harness := (true, "c8833ab8188c7e0ebeb1fbaa1190da48d519bfc7d05312d9ffb96bc381578913"), looks := false }, kinds := [], alts := [], laidByText := true, laidKinds := [.data, .data], laidTests := true, laidLooks := .later }
def StmtTellsCardSaid : Prop := Claim7.holds Tryd.pinned (.plain (OpenSpec.ofChange stmtTellsSpec)) stmtTellsCard

/-- THE TIED CARD OF 'ladderbacklaw28.StmtErased'. -/
def stmtErasedCard : Claim7 := { stood := { row := stmtErasedRow, standIns := [], harness := (true, "c8833ab8188c7e0ebeb1fbaa1190da48d519bfc7d05312d9ffb96bc381578913"), looks := false }, kinds := [], alts := [], laidByText := true, laidKinds := [.data, .data], laidTests := true, laidLooks := .later }
def StmtErasedCardSaid : Prop := Claim7.holds Tryd.pinned (.plain (OpenSpec.ofChange stmtErasedSpec)) stmtErasedCard

/-- THE SECOND FORM's CARD OF 'ladderbacklaw11.BlockRuns'. -/
def blockRunsUptoCard : Claim7 := { stood := { row := blockRunsUptoRow, standIns := [], harness := (true, "c8833ab8188c7e0ebeb1fbaa1190da48d519bfc7d05312d9ffb96bc381578913"), looks := false }, kinds := [], alts := [], laidByText := true, laidKinds := [.data], laidTests := true, laidLooks := .later }
def BlockRunsUptoCardSaid : Prop := Claim7.holds Tryd.pinned (.plain (OpenSpec.upto blockRunsSpec)) blockRunsUptoCard

/-- THE SECOND FORM's CARD OF 'ladderbacklaw11.BlockKeeps'. -/
def blockKeepsUptoCard : Claim7 := { stood := { row := blockKeepsUptoRow, standIns := [], harness := (true, "c8833ab8188c7e0ebeb1fbaa1190da48d519bfc7d05312d9ffb96bc381578913"), looks := false }, kinds := [], alts := [], laidByText := true, laidKinds := [.data], laidTests := true, laidLooks := .later }
def BlockKeepsUptoCardSaid : Prop := Claim7.holds Tryd.pinned (.plain (OpenSpec.upto blockKeepsSpec)) blockKeepsUptoCard

/-- THE SECOND FORM's CARD OF 'ladderbacklaw26.ExprTypes'. -/
def exprTypesUptoCard : Claim7 := { stood := { row := exprTypesUptoRow, standIns := [], harness := (true, "c8833ab8188c7e0ebeb1fbaa1190da48d519bfc7d05312d9ffb96bc381578913"), looks := false }, kinds := [], alts := [], laidByText := true, laidKinds := [.data, .data], laidTests := true, laidLooks := .later }
def ExprTypesUptoCardSaid : Prop := Claim7.holds Tryd.pinned (.plain (OpenSpec.upto exprTypesSpec)) exprTypesUptoCard

/-- THE SECOND FORM's CARD OF 'ladderbacklaw26.ExprMore'. -/
def exprMoreUptoCard : Claim7 := { stood := { row := exprMoreUptoRow, standIns := [], harness := (true, "c8833ab8188c7e0ebeb1fbaa1190da48d519bfc7d05312d9ffb96bc381578913"), looks := false }, kinds := [], alts := [], laidByText := true, laidKinds := [.data, .data], laidTests := true, laidLooks := .later }
def ExprMoreUptoCardSaid : Prop := Claim7.holds Tryd.pinned (.plain (OpenSpec.upto exprMoreSpec)) exprMoreUptoCard

/-- THE SECOND FORM's CARD OF 'ladderbacklaw28.StmtTells'. -/
def stmtTellsUptoCard : Claim7 := { stood := { row := stmtTellsUptoRow, standIns := [], harness := (true, "c8833ab8188c7e0ebeb1fbaa1190da48d519bfc7d05312d9ffb96bc381578913"), looks := false }, kinds := [], alts := [], laidByText := true, laidKinds := [.data, .data], laidTests := true, laidLooks := .later }
def StmtTellsUptoCardSaid : Prop := Claim7.holds Tryd.pinned (.plain (OpenSpec.upto stmtTellsSpec)) stmtTellsUptoCard

/-- THE SECOND FORM's CARD OF 'ladderbacklaw28.StmtErased'. -/
def stmtErasedUptoCard : Claim7 := { stood := { row := stmtErasedUptoRow, standIns := [], harness := (true, "c8833ab8188c7e0ebeb1fbaa1190da48d519bfc7d05312d9ffb96bc381578913"), looks := false }, kinds := [], alts := [], laidByText := true, laidKinds := [.data, .data], laidTests := true, laidLooks := .later }
def StmtErasedUptoCardSaid : Prop := Claim7.holds Tryd.pinned (.plain (OpenSpec.upto stmtErasedSpec)) stmtErasedUptoCard
end Rows
end Go.Proofs.YthldpihpjekleaaDoor
