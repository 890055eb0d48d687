-- Printed by a program of this session's over the kit's printer (wip/patch_print.py).
import Derived.Test.YticmkjkngngdhaaDoorQOpLinesx0
import Derived.Test.YticmkjkngngdhaaDoorQOpLinesx1
import Derived.Test.YticmkjkngngdhaaDoorQOpLinesx2
import Derived.Test.YticmkjkngngdhaaDoorQOpLinesx3
import Derived.Test.YticmkjkngngdhaaDoorQOpLinesx4
import Derived.Test.YticmkjkngngdhaaDoorQOpLinesx5
import Derived.Test.YticmkjkngngdhaaDoorQOpLinesx6
namespace Go.Proofs.YticmkjkngngdhaaDoor.QOpLines
open Go.RowKit Go.Proofs.YticmkjkngngdhaaDoor Go.Proofs.YticmkjkngngdhaaDoorW.PrintWords Go.Proofs.YticmkjkngngdhaaDoorW.PrintLast Go.Proofs.YticmkjkngngdhaaDoorW.PrintMore
attribute [local go_sem] max2_int min2_int max_two min_two max_three min_three max_four min_four   -- for this text's walks alone
set_option linter.unusedVariables false
set_option linter.unusedSimpArgs false

end Go.Proofs.YticmkjkngngdhaaDoor.QOpLines
