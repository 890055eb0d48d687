/-
  DERIVED. GIVEN WITH THE SEED: THE CARDS: each row of YtgjnmoocgkpkiaaDoorRows.lean that lists a variable, with what it lists TIED to the program's text (the seventh form; the later family's looks); each row that meets fmt, with fmt's text TOLD by the authors' own Lean function (tested against real Go, not proved from fmt's source: count such statements apart). THE CARD IS WHAT COUNTS. Prove the row's statement (the work); the ties are given (YtgjnmoocgkpkiaaDoorTie.lean); close each card by the builder's one call (the guide's Derived/Test/ToyasCard.lean, 'card_holds'). Laid BY PROGRAM, IN A SANDBOX (cutbox-door.mjs). By AI agents, Wed Nov 11 2026. No macro, syntax, notation, axiom, sorry.
-/
import Derived.Test.YtgjnmoocgkpkiaaDoorRows
import GoSem.ClaimSeven
namespace Go.Proofs.YtgjnmoocgkpkiaaDoor
namespace Rows

/-- THE TIED CARD OF 'ladderbacklaw11.BlockTells'. -/
def blockTellsCard : Claim7 := { stood := { row := blockTellsRow, standIns := [], harness := (true, "29325bc0e21ae9af59d4c85bb5a559a4197de1bb1329034a7989dc6b5e0188bf"), looks := false }, kinds := [], alts := [], laidByText := true, laidKinds := [.data], laidTests := true, laidLooks := .later }
def BlockTellsCardSaid : Prop := Claim7.holds Tryd.pinned (.plain (OpenSpec.ofChange blockTellsSpec)) blockTellsCard

/-- THE TIED CARD OF 'ladderbacklaw12.OpTells'. -/
def opTellsCard : Claim7 := { stood := { row := opTellsRow, standIns := [], harness := (true, "29325bc0e21ae9af59d4c85bb5a559a4197de1bb1329034a7989dc6b5e0188bf"), looks := false }, kinds := [], alts := [], laidByText := true, laidKinds := [.data], laidTests := true, laidLooks := .later }
def OpTellsCardSaid : Prop := Claim7.holds Tryd.pinned (.plain (OpenSpec.ofChange opTellsSpec)) opTellsCard

/-- THE TIED CARD OF 'ladderbacklaw28.StmtTells'. -/
def stmtTellsCard : Claim7 := { stood := { row := stmtTellsRow, standIns := [], harness := (true, "29325bc0e21ae9af59d4c85bb5a559a4197de1bb1329034a7989dc6b5e0188bf"), looks := false }, kinds := [], alts := [], laidByText := true, laidKinds := [.data, .data], laidTests := true, laidLooks := .later }
def StmtTellsCardSaid : Prop := Claim7.holds Tryd.pinned (.plain (OpenSpec.ofChange stmtTellsSpec)) stmtTellsCard

/-- THE TIED CARD OF 'ladderbacklaw28.StmtErased'. -/
def stmtErasedCard : Claim7 := { stood := { row := stmtErasedRow, standIns := [], harness := (true, "29325bc0e21ae9af59d4c85bb5a559a4197de1bb1329034a7989dc6b5e0188bf"), looks := false }, kinds := [], alts := [], laidByText := true, laidKinds := [.data, .data], laidTests := true, laidLooks := .later }
def StmtErasedCardSaid : Prop := Claim7.holds Tryd.pinned (.plain (OpenSpec.ofChange stmtErasedSpec)) stmtErasedCard

/-- THE TIED CARD OF 'ladderbacklaw05.IdentRight'. -/
def identRightCard : Claim7 := { stood := { row := identRightRow, standIns := [], harness := (true, "29325bc0e21ae9af59d4c85bb5a559a4197de1bb1329034a7989dc6b5e0188bf"), looks := false }, kinds := [], alts := [], laidByText := true, laidKinds := [.data, .data, .data, .data, .data, .data, .pinned], laidTests := true, laidLooks := .later }
def IdentRightCardSaid : Prop := Claim7.holds Tryd.pinned (.plain (OpenSpec.ofChange identRightSpec)) identRightCard

/-- THE TIED CARD OF 'ladderbacklaw43.NnfTells'. -/
def nnfTellsCard : Claim7 := { stood := { row := nnfTellsRow, standIns := [], harness := (true, "29325bc0e21ae9af59d4c85bb5a559a4197de1bb1329034a7989dc6b5e0188bf"), looks := false }, kinds := [], alts := [], laidByText := true, laidKinds := [.data, .data], laidTests := true, laidLooks := .later }
def NnfTellsCardSaid : Prop := Claim7.holds Tryd.pinned (.plain (OpenSpec.ofChange nnfTellsSpec)) nnfTellsCard

/-- THE TIED CARD OF 'ladderbacklaw44.NetTells'. -/
def netTellsCard : Claim7 := { stood := { row := netTellsRow, standIns := [], harness := (true, "29325bc0e21ae9af59d4c85bb5a559a4197de1bb1329034a7989dc6b5e0188bf"), looks := false }, kinds := [], alts := [], laidByText := true, laidKinds := [.data, .data], laidTests := true, laidLooks := .later }
def NetTellsCardSaid : Prop := Claim7.holds Tryd.pinned (.plain (OpenSpec.ofChange netTellsSpec)) netTellsCard

/-- THE SECOND FORM's CARD OF 'ladderbacklaw11.BlockTells'. -/
def blockTellsUptoCard : Claim7 := { stood := { row := blockTellsUptoRow, standIns := [], harness := (true, "29325bc0e21ae9af59d4c85bb5a559a4197de1bb1329034a7989dc6b5e0188bf"), looks := false }, kinds := [], alts := [], laidByText := true, laidKinds := [.data], laidTests := true, laidLooks := .later }
def BlockTellsUptoCardSaid : Prop := Claim7.holds Tryd.pinned (.plain (OpenSpec.upto blockTellsSpec)) blockTellsUptoCard

/-- THE SECOND FORM's CARD OF 'ladderbacklaw12.OpTells'. -/
def opTellsUptoCard : Claim7 := { stood := { row := opTellsUptoRow, standIns := [], harness := (true, "29325bc0e21ae9af59d4c85bb5a559a4197de1bb1329034a7989dc6b5e0188bf"), looks := false }, kinds := [], alts := [], laidByText := true, laidKinds := [.data], laidTests := true, laidLooks := .later }
def OpTellsUptoCardSaid : Prop := Claim7.holds Tryd.pinned (.plain (OpenSpec.upto opTellsSpec)) opTellsUptoCard

/-- THE SECOND FORM's CARD OF 'ladderbacklaw28.StmtTells'. -/
def stmtTellsUptoCard : Claim7 := { stood := { row := stmtTellsUptoRow, standIns := [], harness := (true, "29325bc0e21ae9af59d4c85bb5a559a4197de1bb1329034a7989dc6b5e0188bf"), looks := false }, kinds := [], alts := [], laidByText := true, laidKinds := [.data, .data], laidTests := true, laidLooks := .later }
def StmtTellsUptoCardSaid : Prop := Claim7.holds Tryd.pinned (.plain (OpenSpec.upto stmtTellsSpec)) stmtTellsUptoCard

/-- THE SECOND FORM's CARD OF 'ladderbacklaw28.StmtErased'. -/
def stmtErasedUptoCard : Claim7 := { stood := { row := stmtErasedUptoRow, standIns := [], harness := (true, "29325bc0e21ae9af59d4c85bb5a559a4197de1bb1329034a7989dc6b5e0188bf"), looks := false }, kinds := [], alts := [], laidByText := true, laidKinds := [.data, .data], laidTests := true, laidLooks := .later }
def StmtErasedUptoCardSaid : Prop := Claim7.holds Tryd.pinned (.plain (OpenSpec.upto stmtErasedSpec)) stmtErasedUptoCard

/-- THE SECOND FORM's CARD OF 'ladderbacklaw05.IdentRight'. -/
def identRightUptoCard : Claim7 := { stood := { row := identRightUptoRow, standIns := [], harness := (true, "29325bc0e21ae9af59d4c85bb5a559a4197de1bb1329034a7989dc6b5e0188bf"), looks := false }, kinds := [], alts := [], laidByText := true, laidKinds := [.data, .data, .data, .data, .data, .data, .pinned], laidTests := true, laidLooks := .later }
def IdentRightUptoCardSaid : Prop := Claim7.holds Tryd.pinned (.plain (OpenSpec.upto identRightSpec)) identRightUptoCard

/-- THE SECOND FORM's CARD OF 'ladderbacklaw43.NnfTells'. -/
def nnfTellsUptoCard : Claim7 := { stood := { row := nnfTellsUptoRow, standIns := [], harness := (true, "29325bc0e21ae9af59d4c85bb5a559a4197de1bb1329034a7989dc6b5e0188bf"), looks := false }, kinds := [], alts := [], laidByText := true, laidKinds := [.data, .data], laidTests := true, laidLooks := .later }
def NnfTellsUptoCardSaid : Prop := Claim7.holds Tryd.pinned (.plain (OpenSpec.upto nnfTellsSpec)) nnfTellsUptoCard

/-- THE SECOND FORM's CARD OF 'ladderbacklaw44.NetTells'. -/
def netTellsUptoCard : Claim7 := { stood := { row := netTellsUptoRow, standIns := [], harness := (true, "29325bc0e21ae9af59d4c85bb5a559a4197de1bb1329034a7989dc6b5e0188bf"), looks := false }, kinds := [], alts := [], laidByText := true, laidKinds := [.data, .data], laidTests := true, laidLooks := .later }
def NetTellsUptoCardSaid : Prop := Claim7.holds Tryd.pinned (.plain (OpenSpec.upto netTellsSpec)) netTellsUptoCard
end Rows
end Go.Proofs.YtgjnmoocgkpkiaaDoor
