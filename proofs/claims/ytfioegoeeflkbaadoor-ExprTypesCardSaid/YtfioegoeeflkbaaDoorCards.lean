/-
  DERIVED. GIVEN WITH THE SEED: THE CARDS: each row of YtfioegoeeflkbaaDoorRows.lean that lists a variable, with what it lists TIED to the program's text (the seventh form; the later family's looks); each row that meets fmt, with fmt's text TOLD by the authors' own Lean function (tested against real Go, not proved from fmt's source: count such statements apart). THE CARD IS WHAT COUNTS. Prove the row's statement (the work); the ties are given (YtfioegoeeflkbaaDoorTie.lean); close each card by the builder's one call (the guide's Derived/Test/ToyasCard.lean, 'card_holds'). Laid BY PROGRAM, IN A SANDBOX (cutbox-door.mjs). By AI agents, Wed Nov 11 2026. No macro, syntax, notation, axiom, sorry.
-/
import Derived.Test.YtfioegoeeflkbaaDoorRows
import GoSem.ClaimSeven
namespace Go.Proofs.YtfioegoeeflkbaaDoor
namespace Rows

/-- THE TIED CARD OF 'ladderbacklaw26.ExprTypes'. -/
def exprTypesCard : Claim7 := { stood := { row := exprTypesRow, standIns := [], harness := (true, "f44a480ed1d8ef3c5a4c97e1f053a064b8af9813601ee038a2cdeee56727cfe4"), looks := false }, kinds := [], alts := [], laidByText := true, laidKinds := [.data, .data], laidTests := true, laidLooks := .later }
def ExprTypesCardSaid : Prop := Claim7.holds Tryd.pinned (.plain (OpenSpec.ofChange exprTypesSpec)) exprTypesCard

/-- THE TIED CARD OF 'ladderbacklaw26.ExprMore'. -/
def exprMoreCard : Claim7 := { stood := { row := exprMoreRow, standIns := [], harness := (true, "f44a480ed1d8ef3c5a4c97e1f053a064b8af9813601ee038a2cdeee56727cfe4"), looks := false }, kinds := [], alts := [], laidByText := true, laidKinds := [.data, .data], laidTests := true, laidLooks := .later }
def ExprMoreCardSaid : Prop := Claim7.holds Tryd.pinned (.plain (OpenSpec.ofChange exprMoreSpec)) exprMoreCard

/-- THE TIED CARD OF 'ladderbacklaw43.NnfTells'. -/
def nnfTellsCard : Claim7 := { stood := { row := nnfTellsRow, standIns := [], harness := (true, "f44a480ed1d8ef3c5a4c97e1f053a064b8af9813601ee038a2cdeee56727cfe4"), looks := false }, kinds := [], alts := [], laidByText := true, laidKinds := [.data, .data], laidTests := true, laidLooks := .later }
def NnfTellsCardSaid : Prop := Claim7.holds Tryd.pinned (.plain (OpenSpec.ofChange nnfTellsSpec)) nnfTellsCard

/-- THE TIED CARD OF 'ladderbacklaw44.NetTells'. -/
def netTellsCard : Claim7 := { stood := { row := netTellsRow, standIns := [], harness := (true, "f44a480ed1d8ef3c5a4c97e1f053a064b8af9813601ee038a2cdeee56727cfe4"), looks := false }, kinds := [], alts := [], laidByText := true, laidKinds := [.data, .data], laidTests := true, laidLooks := .later }
def NetTellsCardSaid : Prop := Claim7.holds Tryd.pinned (.plain (OpenSpec.ofChange netTellsSpec)) netTellsCard

/-- THE TIED CARD OF 'ladderbacklaw44.NetBack'. -/
def netBackCard : Claim7 := { stood := { row := netBackRow, standIns := [], harness := (true, "f44a480ed1d8ef3c5a4c97e1f053a064b8af9813601ee038a2cdeee56727cfe4"), looks := false }, kinds := [], alts := [], laidByText := true, laidKinds := [.data, .data], laidTests := true, laidLooks := .later }
def NetBackCardSaid : Prop := Claim7.holds Tryd.pinned (.plain (OpenSpec.ofChange netBackSpec)) netBackCard

/-- THE TIED CARD OF 'ladderbacklaw37.EmitExprs'. -/
def emitExprsCard : Claim7 := { stood := { row := emitExprsRow, standIns := [], harness := (true, "f44a480ed1d8ef3c5a4c97e1f053a064b8af9813601ee038a2cdeee56727cfe4"), looks := false }, kinds := [], alts := [], laidByText := true, laidKinds := [.data, .data], laidTests := true, laidLooks := .later }
def EmitExprsCardSaid : Prop := Claim7.holds Tryd.pinned (.plain (OpenSpec.ofChange emitExprsSpec)) emitExprsCard

/-- THE TIED CARD OF 'ladderbacklaw28.StmtTells'. -/
def stmtTellsCard : Claim7 := { stood := { row := stmtTellsRow, standIns := [], harness := (true, "f44a480ed1d8ef3c5a4c97e1f053a064b8af9813601ee038a2cdeee56727cfe4"), looks := false }, kinds := [], alts := [], laidByText := true, laidKinds := [.data, .data], laidTests := true, laidLooks := .later }
def StmtTellsCardSaid : Prop := Claim7.holds Tryd.pinned (.plain (OpenSpec.ofChange stmtTellsSpec)) stmtTellsCard

/-- THE TIED CARD OF 'ladderbacklaw28.StmtErased'. -/
def stmtErasedCard : Claim7 := { stood := { row := stmtErasedRow, standIns := [], harness := (true, "f44a480ed1d8ef3c5a4c97e1f053a064b8af9813601ee038a2cdeee56727cfe4"), looks := false }, kinds := [], alts := [], laidByText := true, laidKinds := [.data, .data], laidTests := true, laidLooks := .later }
def StmtErasedCardSaid : Prop := Claim7.holds Tryd.pinned (.plain (OpenSpec.ofChange stmtErasedSpec)) stmtErasedCard

/-- THE SECOND FORM's CARD OF 'ladderbacklaw26.ExprTypes'. -/
def exprTypesUptoCard : Claim7 := { stood := { row := exprTypesUptoRow, standIns := [], harness := (true, "f44a480ed1d8ef3c5a4c97e1f053a064b8af9813601ee038a2cdeee56727cfe4"), looks := false }, kinds := [], alts := [], laidByText := true, laidKinds := [.data, .data], laidTests := true, laidLooks := .later }
def ExprTypesUptoCardSaid : Prop := Claim7.holds Tryd.pinned (.plain (OpenSpec.upto exprTypesSpec)) exprTypesUptoCard

/-- THE SECOND FORM's CARD OF 'ladderbacklaw26.ExprMore'. -/
def exprMoreUptoCard : Claim7 := { stood := { row := exprMoreUptoRow, standIns := [], harness := (true, "f44a480ed1d8ef3c5a4c97e1f053a064b8af9813601ee038a2cdeee56727cfe4"), looks := false }, kinds := [], alts := [], laidByText := true, laidKinds := [.data, .data], laidTests := true, laidLooks := .later }
def ExprMoreUptoCardSaid : Prop := Claim7.holds Tryd.pinned (.plain (OpenSpec.upto exprMoreSpec)) exprMoreUptoCard

/-- THE SECOND FORM's CARD OF 'ladderbacklaw43.NnfTells'. -/
def nnfTellsUptoCard : Claim7 := { stood := { row := nnfTellsUptoRow, standIns := [], harness := (true, "f44a480ed1d8ef3c5a4c97e1f053a064b8af9813601ee038a2cdeee56727cfe4"), looks := false }, kinds := [], alts := [], laidByText := true, laidKinds := [.data, .data], laidTests := true, laidLooks := .later }
def NnfTellsUptoCardSaid : Prop := Claim7.holds Tryd.pinned (.plain (OpenSpec.upto nnfTellsSpec)) nnfTellsUptoCard

/-- THE SECOND FORM's CARD OF 'ladderbacklaw44.NetTells'. -/
def netTellsUptoCard : Claim7 := { stood := { row := netTellsUptoRow, standIns := [], harness := (true, "f44a480ed1d8ef3c5a4c97e1f053a064b8af9813601ee038a2cdeee56727cfe4"), looks := false }, kinds := [], alts := [], laidByText := true, laidKinds := [.data, .data], laidTests := true, laidLooks := .later }
def NetTellsUptoCardSaid : Prop := Claim7.holds Tryd.pinned (.plain (OpenSpec.upto netTellsSpec)) netTellsUptoCard

/-- THE SECOND FORM's CARD OF 'ladderbacklaw44.NetBack'. -/
def netBackUptoCard : Claim7 := { stood := { row := netBackUptoRow, standIns := [], harness := (true, "f44a480ed1d8ef3c5a4c97e1f053a064b8af9813601ee038a2cdeee56727cfe4"), looks := false }, kinds := [], alts := [], laidByText := true, laidKinds := [.data, .data], laidTests := true, laidLooks := .later }
def NetBackUptoCardSaid : Prop := Claim7.holds Tryd.pinned (.plain (OpenSpec.upto netBackSpec)) netBackUptoCard

/-- THE SECOND FORM's CARD OF 'ladderbacklaw37.EmitExprs'. -/
def emitExprsUptoCard : Claim7 := { stood := { row := emitExprsUptoRow, standIns := [], harness := (true, "f44a480ed1d8ef3c5a4c97e1f053a064b8af9813601ee038a2cdeee56727cfe4"), looks := false }, kinds := [], alts := [], laidByText := true, laidKinds := [.data, .data], laidTests := true, laidLooks := .later }
def EmitExprsUptoCardSaid : Prop := Claim7.holds Tryd.pinned (.plain (OpenSpec.upto emitExprsSpec)) emitExprsUptoCard

/-- THE SECOND FORM's CARD OF 'ladderbacklaw28.StmtTells'. -/
def stmtTellsUptoCard : Claim7 := { stood := { row := stmtTellsUptoRow, standIns := [], harness := (true, "f44a480ed1d8ef3c5a4c97e1f053a064b8af9813601ee038a2cdeee56727cfe4"), looks := false }, kinds := [], alts := [], laidByText := true, laidKinds := [.data, .data], laidTests := true, laidLooks := .later }
def StmtTellsUptoCardSaid : Prop := Claim7.holds Tryd.pinned (.plain (OpenSpec.upto stmtTellsSpec)) stmtTellsUptoCard

/-- THE SECOND FORM's CARD OF 'ladderbacklaw28.StmtErased'. -/
def stmtErasedUptoCard : Claim7 := { stood := { row := stmtErasedUptoRow, standIns := [], harness := (true, "f44a480ed1d8ef3c5a4c97e1f053a064b8af9813601ee038a2cdeee56727cfe4"), looks := false }, kinds := [], alts := [], laidByText := true, laidKinds := [.data, .data], laidTests := true, laidLooks := .later }
def StmtErasedUptoCardSaid : Prop := Claim7.holds Tryd.pinned (.plain (OpenSpec.upto stmtErasedSpec)) stmtErasedUptoCard
end Rows
end Go.Proofs.YtfioegoeeflkbaaDoor
