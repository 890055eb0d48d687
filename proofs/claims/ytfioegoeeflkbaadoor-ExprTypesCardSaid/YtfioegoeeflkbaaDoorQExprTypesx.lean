-- Printed by a program of this session's over the kit's printer (wip/patch_print.py).
import Derived.Test.YtfioegoeeflkbaaDoorQExprTypesx0
import Derived.Test.YtfioegoeeflkbaaDoorQExprTypesx1
import Derived.Test.YtfioegoeeflkbaaDoorQExprTypesx2
import Derived.Test.YtfioegoeeflkbaaDoorQExprTypesx3
import Derived.Test.YtfioegoeeflkbaaDoorQExprTypesx4
import Derived.Test.YtfioegoeeflkbaaDoorQExprTypesx5
import Derived.Test.YtfioegoeeflkbaaDoorQExprTypesx6
import Derived.Test.YtfioegoeeflkbaaDoorQExprTypesx7
import Derived.Test.YtfioegoeeflkbaaDoorQExprTypesx8
import Derived.Test.YtfioegoeeflkbaaDoorQExprTypesx9
import Derived.Test.YtfioegoeeflkbaaDoorQExprTypesx10
import Derived.Test.YtfioegoeeflkbaaDoorQExprTypesx11
import Derived.Test.YtfioegoeeflkbaaDoorQExprTypesx12
import Derived.Test.YtfioegoeeflkbaaDoorQExprTypesx13
import Derived.Test.YtfioegoeeflkbaaDoorQExprTypesx14
import Derived.Test.YtfioegoeeflkbaaDoorQExprTypesx15
namespace Go.Proofs.YtfioegoeeflkbaaDoor.QExprTypes
open Go.RowKit Go.Proofs.YtfioegoeeflkbaaDoor Go.Proofs.YtfioegoeeflkbaaDoorW.PrintWords Go.Proofs.YtfioegoeeflkbaaDoorW.PrintLast Go.Proofs.YtfioegoeeflkbaaDoorW.PrintMore
attribute [local go_sem] setCell_drewN0 max2_int min2_int max_two min_two max_three min_three max_four min_four   -- for this text's walks alone
set_option linter.unusedVariables false
set_option linter.unusedSimpArgs false

end Go.Proofs.YtfioegoeeflkbaaDoor.QExprTypes
