-- Printed by a program of this session's over the kit's printer (wip/patch_print.py).
import Derived.Test.YtgmfbmfacodmpaaDoorQNumReadsx0
import Derived.Test.YtgmfbmfacodmpaaDoorQNumReadsx1
import Derived.Test.YtgmfbmfacodmpaaDoorQNumReadsx2
import Derived.Test.YtgmfbmfacodmpaaDoorQNumReadsx3
namespace Go.Proofs.YtgmfbmfacodmpaaDoor.QNumReads
open Go.RowKit Go.Proofs.YtgmfbmfacodmpaaDoor Go.Proofs.YtgmfbmfacodmpaaDoorW.PrintWords Go.Proofs.YtgmfbmfacodmpaaDoorW.PrintLast Go.Proofs.YtgmfbmfacodmpaaDoorW.PrintMore
attribute [local go_sem] max2_int min2_int max_two min_two max_three min_three max_four min_four   -- for this text's walks alone
set_option linter.unusedVariables false
set_option linter.unusedSimpArgs false

end Go.Proofs.YtgmfbmfacodmpaaDoor.QNumReads
