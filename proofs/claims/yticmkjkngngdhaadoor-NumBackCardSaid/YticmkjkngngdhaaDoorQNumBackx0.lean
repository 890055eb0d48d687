-- Printed by a program of this session's over the kit's printer (wip/patch_print.py).
import Derived.Test.YticmkjkngngdhaaDoorProg
import Derived.Below
import Derived.Deep.Draws
import Derived.Deep.AppendLies
import Derived.Maps.AppendAt
import Derived.OwnWalk
import Derived.Laws.BytesArg
import Derived.Laws.MakeOwn
import Derived.Laws.OwnMore
import Derived.Deep.OwnRows
import Derived.Tactics
import Derived.Lib.ConvBytes
import Derived.Laws.Slices
import Derived.WalkKit
import Derived.KernelRfl
import Derived.RowKit3
import Derived.Deep.LoopGhost
import Derived.Deep.QuietTactic
import Derived.BigQuiet
import Derived.WideLaws
import Derived.Deep.DeepCutAuto
import Derived.Deep.CutBlock
import Derived.Deep.RegionHeld3
import Derived.Laws.Rows
import Derived.Lib.AppendStr
import Derived.ArgAppend
import Derived.Laws.IdiomCopy
import Derived.OrdersHeld
import Derived.Laws.BitsLemmas
import Derived.RowKit
import Derived.Test.YticmkjkngngdhaaDoorGNumV
import Derived.Test.YticmkjkngngdhaaDoorWWords
import Derived.Test.YticmkjkngngdhaaDoorWLast
import Derived.Test.YticmkjkngngdhaaDoorWTab
import Derived.Test.YticmkjkngngdhaaDoorWFour
import Derived.Test.YticmkjkngngdhaaDoorWQPut
import Derived.Test.YticmkjkngngdhaaDoorWApart
import Derived.Test.YticmkjkngngdhaaDoorWArr
import Derived.Test.YticmkjkngngdhaaDoorWZeros
import Derived.Test.YticmkjkngngdhaaDoorWFoot
import Derived.Test.YticmkjkngngdhaaDoorWKept
import Derived.Test.YticmkjkngngdhaaDoorWShare
import Derived.Test.YticmkjkngngdhaaDoorWN
import Derived.Test.YticmkjkngngdhaaDoorWFootNe
import Derived.Test.YticmkjkngngdhaaDoorWAt
import Derived.Test.YticmkjkngngdhaaDoorWEqStruct
import Derived.Test.YticmkjkngngdhaaDoorWRepsOne
import Derived.Test.YticmkjkngngdhaaDoorWInv
import Derived.Test.YticmkjkngngdhaaDoorWInvWords
import Derived.Test.YticmkjkngngdhaaDoorWGuard
import Derived.Test.YticmkjkngngdhaaDoorWNEv
import Derived.Test.YticmkjkngngdhaaDoorWMore
namespace Go.Proofs.YticmkjkngngdhaaDoor.QNumBack
open Go.RowKit Go.Proofs.YticmkjkngngdhaaDoor Go.Proofs.YticmkjkngngdhaaDoorW.PrintWords Go.Proofs.YticmkjkngngdhaaDoorW.PrintLast Go.Proofs.YticmkjkngngdhaaDoorW.PrintMore
attribute [local go_sem] max2_int min2_int max_two min_two max_three min_three max_four min_four   -- for this text's walks alone
set_option linter.unusedVariables false
set_option linter.unusedSimpArgs false



def errW : Option Int → Value
  | none => .nilIface
  | some c => .iface 0 (.int .i64 c)
theorem errW_none : errW none = .nilIface := rfl
theorem errW_some (c : Int) : errW (some c) = .iface 0 (.int .i64 c) := rfl

-- the values' own types


end Go.Proofs.YticmkjkngngdhaaDoor.QNumBack
