-- Printed by a program of this session's over the kit's printer (wip/patch_print.py).
import Derived.Test.YtgjnmoocgkpkiaaDoorQBlockTellsx0
import Derived.Test.YtgjnmoocgkpkiaaDoorQBlockTellsx1
import Derived.Test.YtgjnmoocgkpkiaaDoorQBlockTellsx2
namespace Go.Proofs.YtgjnmoocgkpkiaaDoor.QBlockTells
open Go.RowKit Go.Proofs.YtgjnmoocgkpkiaaDoor Go.Proofs.YtgjnmoocgkpkiaaDoorW.PrintWords Go.Proofs.YtgjnmoocgkpkiaaDoorW.PrintLast Go.Proofs.YtgjnmoocgkpkiaaDoorW.PrintMore
attribute [local go_sem] max2_int min2_int max_two min_two max_three min_three max_four min_four   -- for this text's walks alone
set_option linter.unusedVariables false
set_option linter.unusedSimpArgs false

end Go.Proofs.YtgjnmoocgkpkiaaDoor.QBlockTells
