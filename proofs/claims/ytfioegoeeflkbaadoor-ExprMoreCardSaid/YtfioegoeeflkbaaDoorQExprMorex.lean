-- Printed by a program of this session's over the kit's printer (wip/patch_print.py).
import Derived.Test.YtfioegoeeflkbaaDoorQExprMorex0
import Derived.Test.YtfioegoeeflkbaaDoorQExprMorex1
import Derived.Test.YtfioegoeeflkbaaDoorQExprMorex2
import Derived.Test.YtfioegoeeflkbaaDoorQExprMorex3
import Derived.Test.YtfioegoeeflkbaaDoorQExprMorex4
import Derived.Test.YtfioegoeeflkbaaDoorQExprMorex5
import Derived.Test.YtfioegoeeflkbaaDoorQExprMorex6
import Derived.Test.YtfioegoeeflkbaaDoorQExprMorex7
import Derived.Test.YtfioegoeeflkbaaDoorQExprMorex8
import Derived.Test.YtfioegoeeflkbaaDoorQExprMorex9
import Derived.Test.YtfioegoeeflkbaaDoorQExprMorex10
import Derived.Test.YtfioegoeeflkbaaDoorQExprMorex11
namespace Go.Proofs.YtfioegoeeflkbaaDoor.QExprMore
open Go.RowKit Go.Proofs.YtfioegoeeflkbaaDoor Go.Proofs.YtfioegoeeflkbaaDoorW.PrintWords Go.Proofs.YtfioegoeeflkbaaDoorW.PrintLast Go.Proofs.YtfioegoeeflkbaaDoorW.PrintMore
attribute [local go_sem] max2_int min2_int max_two min_two max_three min_three max_four min_four   -- for this text's walks alone
set_option linter.unusedVariables false
set_option linter.unusedSimpArgs false

end Go.Proofs.YtfioegoeeflkbaaDoor.QExprMore
