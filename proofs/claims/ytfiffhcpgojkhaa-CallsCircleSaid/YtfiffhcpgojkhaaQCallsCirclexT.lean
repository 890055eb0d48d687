-- Printed by a program of this session's over the kit's printer (wip/patch_print.py).
import Derived.Test.YtfiffhcpgojkhaaQCallsCirclex0
import Derived.Test.YtfiffhcpgojkhaaTrods
import Derived.KernelRfl
namespace Go.Proofs.Ytfiffhcpgojkhaa.QCallsCircle
open Go.RowKit Go.Proofs.Ytfiffhcpgojkhaa Go.Proofs.YtfiffhcpgojkhaaW.PrintWords Go.Proofs.YtfiffhcpgojkhaaW.PrintLast Go.Proofs.YtfiffhcpgojkhaaW.PrintMore
attribute [local go_sem] setCell_drewN0 max2_int min2_int max_two min_two max_three min_three max_four min_four   -- for this text's walks alone
set_option linter.unusedVariables false
set_option linter.unusedSimpArgs false

theorem t44 : ∀ n, TrodsAt Try.prog 44 k44 W44 n
 | 0 => trods_zero
 | n + 1 => trods_iso (fun p => ⟨p.1, p.2.1, p.2.2⟩) (fun _ => rfl) (trods_struct (fs := [(0, 3), (1, 3), (2, 3)]) Try.underlying44 rfl (by kernel_rfl) (fields_cons (d := (Kd.int .i64)) (o' := 1) (by kernel_rfl) rfl (trods_int Try.underlying3 n) (fields_cons (d := (Kd.int .i64)) (o' := 2) (by kernel_rfl) rfl (trods_int Try.underlying3 n) (fields_one (d := (Kd.int .i64)) (by kernel_rfl) (trods_int Try.underlying3 n)))))
theorem t69 : ∀ n, TrodsAt Try.prog 69 k69 W69 n
 | 0 => trods_zero
 | n + 1 => trods_iso (fun p => ⟨p.1, p.2.1, p.2.2.1, p.2.2.2.1, p.2.2.2.2⟩) (fun _ => rfl) (trods_struct (fs := [(0, 9), (1, 27), (2, 3), (3, 27), (4, 31)]) Try.underlying69 rfl (by kernel_rfl) (fields_cons (d := Kd.string) (o' := 1) (by kernel_rfl) rfl (trods_string Try.underlying9 n) (fields_cons (d := (Kd.slice 3 (Kd.int .i64))) (o' := 2) (by kernel_rfl) rfl (trods_slice' (d := (Kd.int .i64)) Try.underlying27 (by kernel_rfl) (trods_int Try.underlying3 n)) (fields_cons (d := (Kd.int .i64)) (o' := 3) (by kernel_rfl) rfl (trods_int Try.underlying3 n) (fields_cons (d := (Kd.slice 3 (Kd.int .i64))) (o' := 4) (by kernel_rfl) rfl (trods_slice' (d := (Kd.int .i64)) Try.underlying27 (by kernel_rfl) (trods_int Try.underlying3 n)) (fields_one (d := (Kd.slice 44 k44)) (by kernel_rfl) (trods_slice' (d := k44) Try.underlying31 (by kernel_rfl) (t44 n))))))))
end Go.Proofs.Ytfiffhcpgojkhaa.QCallsCircle
