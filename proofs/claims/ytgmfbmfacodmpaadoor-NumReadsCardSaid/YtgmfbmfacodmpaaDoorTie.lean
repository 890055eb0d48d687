/-
  DERIVED. GIVEN WITH THE SEED: THE PROGRAM's TIES (one call each: nine closed facts by the kernel) AND EACH ROW's TIE, after the 31st guide's Derived/Test/Toyas{Tie, Card}.lean. No idea stands in it: it is a product of the set-up. Laid BY PROGRAM, IN A SANDBOX (cutbox-door.mjs). By AI agents, Wed Nov 11 2026. No macro, syntax, notation, axiom, sorry.
-/
import Derived.Test.YtgmfbmfacodmpaaDoorRows
import Derived.LaidByTextLater
import Derived.SevenTiedAt
import Derived.LaidSub
import Derived.LaidOnce
namespace Go.Proofs.YtgmfbmfacodmpaaDoor
open Go
set_option maxRecDepth 100000
theorem seatTie1 : Tryd.prog.laidByTextLater [("ladderback/kind.rows", Rows.laid_ladderback_kind_rows), ("ladderback/block.rows", Rows.laid_ladderback_block_rows)] [.data, .data] true :=
  Program.laidByTextLater_by_one 120 8 163 (by kernel_rfl) (by kernel_rfl) (by kernel_rfl) (by kernel_rfl) (by kernel_rfl) (by kernel_rfl) (fun _ _ => by kernel_rfl)
theorem seatTie2 : Tryd.prog.laidByTextLater [("ladderback/op.rows", Rows.laid_ladderback_op_rows)] [.data] true :=
  Program.laidByTextLater_by_one 120 8 163 (by kernel_rfl) (by kernel_rfl) (by kernel_rfl) (by kernel_rfl) (by kernel_rfl) (by kernel_rfl) (fun _ _ => by kernel_rfl)
theorem noOwnUnsafe : Tryd.pinned.checked.prog.headLifts.contains "ownunsafe" = false := by kernel_rfl
theorem tie : Tryd.prog.laidByTextLater [("ladderback/block.rows", Rows.laid_ladderback_block_rows)] [.data] true :=
  Program.laidByTextLater.sub seatTie1 ["ladderback/block.rows"] (by kernel_rfl) (by kernel_rfl)
theorem blockTells_row_tie : Rows.blockTellsRow.laidByTextAt .later Tryd.pinned [.data] true :=
  OpenClaim.laidByTextAt_later rfl rfl tie noOwnUnsafe
theorem tie2 : Tryd.prog.laidByTextLater [("ladderback/op.rows", Rows.laid_ladderback_op_rows)] [.data] true :=
  Program.laidByTextLater.sub seatTie2 ["ladderback/op.rows"] (by kernel_rfl) (by kernel_rfl)
theorem opTells_row_tie : Rows.opTellsRow.laidByTextAt .later Tryd.pinned [.data] true :=
  OpenClaim.laidByTextAt_later rfl rfl tie2 noOwnUnsafe
theorem tie3 : Tryd.prog.laidByTextLater [("ladderback/kind.rows", Rows.laid_ladderback_kind_rows)] [.data] true :=
  Program.laidByTextLater.sub seatTie1 ["ladderback/kind.rows"] (by kernel_rfl) (by kernel_rfl)
theorem numReads_row_tie : Rows.numReadsRow.laidByTextAt .later Tryd.pinned [.data] true :=
  OpenClaim.laidByTextAt_later rfl rfl tie3 noOwnUnsafe
theorem blockTellsUpto_row_tie : Rows.blockTellsUptoRow.laidByTextAt .later Tryd.pinned [.data] true :=
  OpenClaim.laidByTextAt_later rfl rfl tie noOwnUnsafe
theorem opTellsUpto_row_tie : Rows.opTellsUptoRow.laidByTextAt .later Tryd.pinned [.data] true :=
  OpenClaim.laidByTextAt_later rfl rfl tie2 noOwnUnsafe
theorem numReadsUpto_row_tie : Rows.numReadsUptoRow.laidByTextAt .later Tryd.pinned [.data] true :=
  OpenClaim.laidByTextAt_later rfl rfl tie3 noOwnUnsafe
end Go.Proofs.YtgmfbmfacodmpaaDoor
