/-
  DERIVED. GIVEN WITH THE SEED: THE CARDS: each row of YtfiffhcpgojkhaaDoorRows.lean that lists a variable, with what it lists TIED to the program's text (the seventh form; the later family's looks); each row that meets fmt, with fmt's text TOLD by the authors' own Lean function (tested against real Go, not proved from fmt's source: count such statements apart). THE CARD IS WHAT COUNTS. Prove the row's statement (the work); the ties are given (YtfiffhcpgojkhaaDoorTie.lean); close each card by the builder's one call (the guide's Derived/Test/ToyasCard.lean, 'card_holds'). Laid BY PROGRAM, IN A SANDBOX (cutbox-door.mjs). By AI agents, Wed Nov 11 2026. No macro, syntax, notation, axiom, sorry.
-/
import Derived.Test.YtfiffhcpgojkhaaDoorRows
import GoSem.ClaimSeven
namespace Go.Proofs.YtfiffhcpgojkhaaDoor
namespace Rows

/-- THE TIED CARD OF 'ladderbacklaw33.LoopFinds'. -/
def loopFindsCard : Claim7 := { stood := { row := loopFindsRow, standIns := [], harness := (true, "8b60a09979d584d476e69ec031bb49a0b35f031f71165deafc29ed9a17f34e6d"), looks := false }, kinds := [], alts := [], laidByText := true, laidKinds := [.data], laidTests := true, laidLooks := .later }
def LoopFindsCardSaid : Prop := Claim7.holds Tryd.pinned (.plain (OpenSpec.ofChange loopFindsSpec)) loopFindsCard

/-- THE TIED CARD OF 'ladderbacklaw33.LoopNests'. -/
def loopNestsCard : Claim7 := { stood := { row := loopNestsRow, standIns := [], harness := (true, "8b60a09979d584d476e69ec031bb49a0b35f031f71165deafc29ed9a17f34e6d"), looks := false }, kinds := [], alts := [], laidByText := true, laidKinds := [.data], laidTests := true, laidLooks := .later }
def LoopNestsCardSaid : Prop := Claim7.holds Tryd.pinned (.plain (OpenSpec.ofChange loopNestsSpec)) loopNestsCard

/-- THE SECOND FORM's CARD OF 'ladderbacklaw33.LoopFinds'. -/
def loopFindsUptoCard : Claim7 := { stood := { row := loopFindsUptoRow, standIns := [], harness := (true, "8b60a09979d584d476e69ec031bb49a0b35f031f71165deafc29ed9a17f34e6d"), looks := false }, kinds := [], alts := [], laidByText := true, laidKinds := [.data], laidTests := true, laidLooks := .later }
def LoopFindsUptoCardSaid : Prop := Claim7.holds Tryd.pinned (.plain (OpenSpec.upto loopFindsSpec)) loopFindsUptoCard

/-- THE SECOND FORM's CARD OF 'ladderbacklaw33.LoopNests'. -/
def loopNestsUptoCard : Claim7 := { stood := { row := loopNestsUptoRow, standIns := [], harness := (true, "8b60a09979d584d476e69ec031bb49a0b35f031f71165deafc29ed9a17f34e6d"), looks := false }, kinds := [], alts := [], laidByText := true, laidKinds := [.data], laidTests := true, laidLooks := .later }
def LoopNestsUptoCardSaid : Prop := Claim7.holds Tryd.pinned (.plain (OpenSpec.upto loopNestsSpec)) loopNestsUptoCard
end Rows
end Go.Proofs.YtfiffhcpgojkhaaDoor
