-- Printed by a program of this session's over the kit's printer (wip/patch_print.py).
import Derived.Test.YtgmfbmfacodmpaaDoorProg
import Derived.Below
import Derived.Deep.Draws
import Derived.Deep.AppendLies
import Derived.Maps.AppendAt
import Derived.OwnWalk
import Derived.Laws.BytesArg
import Derived.Laws.MakeOwn
import Derived.Laws.OwnMore
import Derived.Deep.OwnRows
import Derived.Tactics
import Derived.Lib.ConvBytes
import Derived.Laws.Slices
import Derived.WalkKit
import Derived.KernelRfl
import Derived.RowKit3
import Derived.Deep.LoopGhost
import Derived.Deep.QuietTactic
import Derived.BigQuiet
import Derived.WideLaws
import Derived.Deep.DeepCutAuto
import Derived.Deep.CutBlock
import Derived.Deep.RegionHeld3
import Derived.Laws.Rows
import Derived.Lib.AppendStr
import Derived.ArgAppend
import Derived.Laws.IdiomCopy
import Derived.OrdersHeld
import Derived.Laws.BitsLemmas
import Derived.RowKit
import Derived.Test.YtgmfbmfacodmpaaDoorGNum
import Derived.Test.YtgmfbmfacodmpaaDoorWWords
import Derived.Test.YtgmfbmfacodmpaaDoorWLast
import Derived.Test.YtgmfbmfacodmpaaDoorWTab
import Derived.Test.YtgmfbmfacodmpaaDoorWFour
import Derived.Test.YtgmfbmfacodmpaaDoorWQPut
import Derived.Test.YtgmfbmfacodmpaaDoorWApart
import Derived.Test.YtgmfbmfacodmpaaDoorWArr
import Derived.Test.YtgmfbmfacodmpaaDoorWZeros
import Derived.Test.YtgmfbmfacodmpaaDoorWFoot
import Derived.Test.YtgmfbmfacodmpaaDoorWKept
import Derived.Test.YtgmfbmfacodmpaaDoorWShare
import Derived.Test.YtgmfbmfacodmpaaDoorWN
import Derived.Test.YtgmfbmfacodmpaaDoorWFootNe
import Derived.Test.YtgmfbmfacodmpaaDoorWAt
import Derived.Test.YtgmfbmfacodmpaaDoorWEqStruct
import Derived.Test.YtgmfbmfacodmpaaDoorWRepsOne
import Derived.Test.YtgmfbmfacodmpaaDoorWInv
import Derived.Test.YtgmfbmfacodmpaaDoorWInvWords
import Derived.Test.YtgmfbmfacodmpaaDoorWGuard
import Derived.Test.YtgmfbmfacodmpaaDoorWNEv
import Derived.Test.YtgmfbmfacodmpaaDoorWMore
namespace Go.Proofs.YtgmfbmfacodmpaaDoor.QNumReads
open Go.RowKit Go.Proofs.YtgmfbmfacodmpaaDoor Go.Proofs.YtgmfbmfacodmpaaDoorW.PrintWords Go.Proofs.YtgmfbmfacodmpaaDoorW.PrintLast Go.Proofs.YtgmfbmfacodmpaaDoorW.PrintMore
attribute [local go_sem] max2_int min2_int max_two min_two max_three min_three max_four min_four   -- for this text's walks alone
set_option linter.unusedVariables false
set_option linter.unusedSimpArgs false



def errW : Option Int → Value
  | none => .nilIface
  | some c => .iface 0 (.int .i64 c)
theorem errW_none : errW none = .nilIface := rfl
theorem errW_some (c : Int) : errW (some c) = .iface 0 (.int .i64 c) := rfl

-- the values' own types

end Go.Proofs.YtgmfbmfacodmpaaDoor.QNumReads
