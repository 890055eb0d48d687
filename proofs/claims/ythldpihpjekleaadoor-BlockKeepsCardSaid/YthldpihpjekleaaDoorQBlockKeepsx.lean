-- Printed by a program of this session's over the kit's printer (wip/patch_print.py).
import Derived.Test.YthldpihpjekleaaDoorQBlockKeepsx0
import Derived.Test.YthldpihpjekleaaDoorQBlockKeepsx1
import Derived.Test.YthldpihpjekleaaDoorQBlockKeepsx2
namespace Go.Proofs.YthldpihpjekleaaDoor.QBlockKeeps
open Go.RowKit Go.Proofs.YthldpihpjekleaaDoor Go.Proofs.YthldpihpjekleaaDoorW.PrintWords Go.Proofs.YthldpihpjekleaaDoorW.PrintLast Go.Proofs.YthldpihpjekleaaDoorW.PrintMore
attribute [local go_sem] setCell_drewN0 max2_int min2_int max_two min_two max_three min_three max_four min_four   -- for this text's walks alone
set_option linter.unusedVariables false
set_option linter.unusedSimpArgs false

end Go.Proofs.YthldpihpjekleaaDoor.QBlockKeeps
