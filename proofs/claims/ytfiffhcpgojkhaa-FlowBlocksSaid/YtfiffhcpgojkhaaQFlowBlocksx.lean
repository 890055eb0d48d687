-- Printed by a program of this session's over the kit's printer (wip/patch_print.py).
import Derived.Test.YtfiffhcpgojkhaaQFlowBlocksx0
import Derived.Test.YtfiffhcpgojkhaaQFlowBlocksx1
import Derived.Test.YtfiffhcpgojkhaaQFlowBlocksx2
import Derived.Test.YtfiffhcpgojkhaaQFlowBlocksx3
import Derived.Test.YtfiffhcpgojkhaaQFlowBlocksx4
import Derived.Test.YtfiffhcpgojkhaaQFlowBlocksx5
import Derived.Test.YtfiffhcpgojkhaaQFlowBlocksx6
import Derived.Test.YtfiffhcpgojkhaaQFlowBlocksx7
import Derived.Test.YtfiffhcpgojkhaaQFlowBlocksx8
import Derived.Test.YtfiffhcpgojkhaaQFlowBlocksx9
import Derived.Test.YtfiffhcpgojkhaaQFlowBlocksx10
import Derived.Test.YtfiffhcpgojkhaaQFlowBlocksx11
import Derived.Test.YtfiffhcpgojkhaaQFlowBlocksx12
namespace Go.Proofs.Ytfiffhcpgojkhaa.QFlowBlocks
open Go.RowKit Go.Proofs.Ytfiffhcpgojkhaa Go.Proofs.YtfiffhcpgojkhaaW.PrintWords Go.Proofs.YtfiffhcpgojkhaaW.PrintLast Go.Proofs.YtfiffhcpgojkhaaW.PrintMore
attribute [local go_sem] setCell_drewN0 max2_int min2_int max_two min_two max_three min_three max_four min_four   -- for this text's walks alone
set_option linter.unusedVariables false
set_option linter.unusedSimpArgs false

end Go.Proofs.Ytfiffhcpgojkhaa.QFlowBlocks
