-- Printed by a program of this session's over the kit's printer (wip/patch_print.py).
import Derived.Test.YtgjnmoocgkpkiaaDoorProg
import Derived.Below
import Derived.Deep.Draws
import Derived.Deep.AppendLies
import Derived.Maps.AppendAt
import Derived.OwnWalk
import Derived.Laws.BytesArg
import Derived.Laws.MakeOwn
import Derived.Laws.OwnMore
import Derived.Deep.OwnRows
import Derived.Tactics
import Derived.Lib.ConvBytes
import Derived.Laws.Slices
import Derived.WalkKit
import Derived.KernelRfl
import Derived.RowKit3
import Derived.Deep.LoopGhost
import Derived.Deep.QuietTactic
import Derived.BigQuiet
import Derived.WideLaws
import Derived.Deep.DeepCutAuto
import Derived.Deep.CutBlock
import Derived.Deep.RegionHeld3
import Derived.Laws.Rows
import Derived.Lib.AppendStr
import Derived.ArgAppend
import Derived.Laws.IdiomCopy
import Derived.OrdersHeld
import Derived.Laws.BitsLemmas
import Derived.RowKit
import Derived.Test.YtgjnmoocgkpkiaaDoorGBlkT
import Derived.Test.YtgjnmoocgkpkiaaDoorTrods
import Derived.Test.YtgjnmoocgkpkiaaDoorWWords
import Derived.Test.YtgjnmoocgkpkiaaDoorWLast
import Derived.Test.YtgjnmoocgkpkiaaDoorWTab
import Derived.Test.YtgjnmoocgkpkiaaDoorWFour
import Derived.Test.YtgjnmoocgkpkiaaDoorWQPut
import Derived.Test.YtgjnmoocgkpkiaaDoorWApart
import Derived.Test.YtgjnmoocgkpkiaaDoorWArr
import Derived.Test.YtgjnmoocgkpkiaaDoorWZeros
import Derived.Test.YtgjnmoocgkpkiaaDoorWFoot
import Derived.Test.YtgjnmoocgkpkiaaDoorWKept
import Derived.Test.YtgjnmoocgkpkiaaDoorWShare
import Derived.Test.YtgjnmoocgkpkiaaDoorWN
import Derived.Test.YtgjnmoocgkpkiaaDoorWFootNe
import Derived.Test.YtgjnmoocgkpkiaaDoorWAt
import Derived.Test.YtgjnmoocgkpkiaaDoorWEqStruct
import Derived.Test.YtgjnmoocgkpkiaaDoorWRepsOne
import Derived.Test.YtgjnmoocgkpkiaaDoorWInv
import Derived.Test.YtgjnmoocgkpkiaaDoorWInvWords
import Derived.Test.YtgjnmoocgkpkiaaDoorWGuard
import Derived.Test.YtgjnmoocgkpkiaaDoorWNEv
import Derived.Test.YtgjnmoocgkpkiaaDoorWMore
namespace Go.Proofs.YtgjnmoocgkpkiaaDoor.QBlockTells
open Go.RowKit Go.Proofs.YtgjnmoocgkpkiaaDoor Go.Proofs.YtgjnmoocgkpkiaaDoorW.PrintWords Go.Proofs.YtgjnmoocgkpkiaaDoorW.PrintLast Go.Proofs.YtgjnmoocgkpkiaaDoorW.PrintMore
attribute [local go_sem] max2_int min2_int max_two min_two max_three min_three max_four min_four   -- for this text's walks alone
set_option linter.unusedVariables false
set_option linter.unusedSimpArgs false



def errW : Option Int → Value
 | none => .nilIface
 | some c => .iface 0 (.int .i64 c)
theorem errW_none : errW none = .nilIface := rfl
theorem errW_some (c : Int) : errW (some c) = .iface 0 (.int .i64 c) := rfl

theorem info3 : (Tryd.prog.info? 3).map (fun i => (i.zero, i.size, i.bytes)) = some (some (.int .i64 0), 1, 8) := by kernel_rfl
theorem info9 : (Tryd.prog.info? 9).map (fun i => (i.zero, i.size, i.bytes)) = some (some (.string ⟨#[]⟩), 1, 16) := by kernel_rfl
-- the values' own types


end Go.Proofs.YtgjnmoocgkpkiaaDoor.QBlockTells
