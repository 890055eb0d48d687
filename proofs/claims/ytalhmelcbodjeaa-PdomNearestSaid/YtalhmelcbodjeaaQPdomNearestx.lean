-- Printed by a program of this session's over the kit's printer (wip/patch_print.py).
import Derived.Test.YtalhmelcbodjeaaQPdomNearestx0
import Derived.Test.YtalhmelcbodjeaaQPdomNearestx1
import Derived.Test.YtalhmelcbodjeaaQPdomNearestx2
import Derived.Test.YtalhmelcbodjeaaQPdomNearestx3
import Derived.Test.YtalhmelcbodjeaaQPdomNearestx4
import Derived.Test.YtalhmelcbodjeaaQPdomNearestx5
import Derived.Test.YtalhmelcbodjeaaQPdomNearestx6
import Derived.Test.YtalhmelcbodjeaaQPdomNearestx7
namespace Go.Proofs.Ytalhmelcbodjeaa.QPdomNearest
open Go.RowKit Go.Proofs.Ytalhmelcbodjeaa Go.Proofs.YtalhmelcbodjeaaW.PrintWords Go.Proofs.YtalhmelcbodjeaaW.PrintLast Go.Proofs.YtalhmelcbodjeaaW.PrintMore
attribute [local go_sem] setCell_drewN0 max2_int min2_int max_two min_two max_three min_three max_four min_four   -- for this text's walks alone
set_option linter.unusedVariables false
set_option linter.unusedSimpArgs false

end Go.Proofs.Ytalhmelcbodjeaa.QPdomNearest
