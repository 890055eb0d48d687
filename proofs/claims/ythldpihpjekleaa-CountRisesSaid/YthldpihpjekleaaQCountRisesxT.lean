-- Printed by a program of this session's over the kit's printer (wip/patch_print.py).
import Derived.Test.YthldpihpjekleaaQCountRisesx0
import Derived.Test.YthldpihpjekleaaTrods
import Derived.KernelRfl
namespace Go.Proofs.Ythldpihpjekleaa.QCountRises
open Go.RowKit Go.Proofs.Ythldpihpjekleaa Go.Proofs.YthldpihpjekleaaW.PrintWords Go.Proofs.YthldpihpjekleaaW.PrintLast Go.Proofs.YthldpihpjekleaaW.PrintMore
attribute [local go_sem] setCell_drewN0 max2_int min2_int max_two min_two max_three min_three max_four min_four   -- for this text's walks alone
set_option linter.unusedVariables false
set_option linter.unusedSimpArgs false

theorem t27 : ∀ n, TrodsAt Try.prog 27 k27 W27 n
 | 0 => trods_zero
 | n + 1 => trods_iso (fun p => ⟨p.1, p.2⟩) (fun _ => rfl) (trods_array (fs := [(0, 4), (1, 4)]) Try.underlying27 (by kernel_rfl) (by kernel_rfl) (fields_cons (d := Kd.bool) (o' := 1) (by kernel_rfl) rfl (trods_bool Try.underlying4 n) (fields_one (d := Kd.bool) (by kernel_rfl) (trods_bool Try.underlying4 n))))
end Go.Proofs.Ythldpihpjekleaa.QCountRises
