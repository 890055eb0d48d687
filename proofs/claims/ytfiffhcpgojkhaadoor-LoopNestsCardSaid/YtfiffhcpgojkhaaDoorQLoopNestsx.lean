-- Printed by a program of this session's over the kit's printer (wip/patch_print.py).
import Derived.Test.YtfiffhcpgojkhaaDoorQLoopNestsx0
import Derived.Test.YtfiffhcpgojkhaaDoorQLoopNestsx1
import Derived.Test.YtfiffhcpgojkhaaDoorQLoopNestsx2
import Derived.Test.YtfiffhcpgojkhaaDoorQLoopNestsx3
import Derived.Test.YtfiffhcpgojkhaaDoorQLoopNestsx4
import Derived.Test.YtfiffhcpgojkhaaDoorQLoopNestsx5
import Derived.Test.YtfiffhcpgojkhaaDoorQLoopNestsx6
namespace Go.Proofs.YtfiffhcpgojkhaaDoor.QLoopNests
open Go.RowKit Go.Proofs.YtfiffhcpgojkhaaDoor Go.Proofs.YtfiffhcpgojkhaaDoorW.PrintWords Go.Proofs.YtfiffhcpgojkhaaDoorW.PrintLast Go.Proofs.YtfiffhcpgojkhaaDoorW.PrintMore
attribute [local go_sem] setCell_drewN0 max2_int min2_int max_two min_two max_three min_three max_four min_four   -- for this text's walks alone
set_option linter.unusedVariables false
set_option linter.unusedSimpArgs false

end Go.Proofs.YtfiffhcpgojkhaaDoor.QLoopNests
