-- Printed by a program of this session's over the kit's printer (wip/patch_print.py).
import Derived.Test.YthldpihpjekleaaDoorQBlockRunsx0
import Derived.Test.YthldpihpjekleaaDoorQBlockRunsx1
import Derived.Test.YthldpihpjekleaaDoorQBlockRunsx2
import Derived.Test.YthldpihpjekleaaDoorQBlockRunsx3
import Derived.Test.YthldpihpjekleaaDoorQBlockRunsx4
import Derived.Test.YthldpihpjekleaaDoorQBlockRunsx5
import Derived.Test.YthldpihpjekleaaDoorQBlockRunsx6
namespace Go.Proofs.YthldpihpjekleaaDoor.QBlockRuns
open Go.RowKit Go.Proofs.YthldpihpjekleaaDoor Go.Proofs.YthldpihpjekleaaDoorW.PrintWords Go.Proofs.YthldpihpjekleaaDoorW.PrintLast Go.Proofs.YthldpihpjekleaaDoorW.PrintMore
attribute [local go_sem] setCell_drewN0 max2_int min2_int max_two min_two max_three min_three max_four min_four   -- for this text's walks alone
set_option linter.unusedVariables false
set_option linter.unusedSimpArgs false

end Go.Proofs.YthldpihpjekleaaDoor.QBlockRuns
