-- Printed by a program of this session's over the kit's printer (wip/patch_print.py).
import Derived.Test.YtalhmelcbodjeaaQDomSetsx0
import Derived.Test.YtalhmelcbodjeaaTrods
import Derived.KernelRfl
namespace Go.Proofs.Ytalhmelcbodjeaa.QDomSets
open Go.RowKit Go.Proofs.Ytalhmelcbodjeaa Go.Proofs.YtalhmelcbodjeaaW.PrintWords Go.Proofs.YtalhmelcbodjeaaW.PrintLast Go.Proofs.YtalhmelcbodjeaaW.PrintMore
attribute [local go_sem] setCell_drewN0 max2_int min2_int max_two min_two max_three min_three max_four min_four   -- for this text's walks alone
set_option linter.unusedVariables false
set_option linter.unusedSimpArgs false

theorem t36 : ∀ n, TrodsAt Try.prog 36 k36 W36 n
 | 0 => trods_zero
 | n + 1 => trods_iso (fun p => ⟨p.1, p.2⟩) (fun _ => rfl) (trods_struct (fs := [(0, 3), (1, 34)]) Try.underlying36 rfl (by kernel_rfl) (fields_cons (d := (Kd.int .i64)) (o' := 1) (by kernel_rfl) rfl (trods_int Try.underlying3 n) (fields_one (d := (Kd.slice 70 (Kd.int .u64))) (by kernel_rfl) (trods_slice' (d := (Kd.int .u64)) Try.underlying34 (by kernel_rfl) (trods_int Try.underlying70 n)))))
end Go.Proofs.Ytalhmelcbodjeaa.QDomSets
