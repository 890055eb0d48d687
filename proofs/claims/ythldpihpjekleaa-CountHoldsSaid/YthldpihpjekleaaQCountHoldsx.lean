-- Printed by a program of this session's over the kit's printer (wip/patch_print.py).
import Derived.Test.YthldpihpjekleaaQCountHoldsx0
import Derived.Test.YthldpihpjekleaaQCountHoldsx1
import Derived.Test.YthldpihpjekleaaQCountHoldsx2
namespace Go.Proofs.Ythldpihpjekleaa.QCountHolds
open Go.RowKit Go.Proofs.Ythldpihpjekleaa Go.Proofs.YthldpihpjekleaaW.PrintWords Go.Proofs.YthldpihpjekleaaW.PrintLast Go.Proofs.YthldpihpjekleaaW.PrintMore
attribute [local go_sem] setCell_drewN0 max2_int min2_int max_two min_two max_three min_three max_four min_four   -- for this text's walks alone
set_option linter.unusedVariables false
set_option linter.unusedSimpArgs false

end Go.Proofs.Ythldpihpjekleaa.QCountHolds
