-- Printed by a program of this session's over the kit's printer (wip/patch_print.py).
import Derived.Test.YtfiffhcpgojkhaaDoorQLoopNestsx0
import Derived.Test.YtfiffhcpgojkhaaDoorTrods
import Derived.KernelRfl
namespace Go.Proofs.YtfiffhcpgojkhaaDoor.QLoopNests
open Go.RowKit Go.Proofs.YtfiffhcpgojkhaaDoor Go.Proofs.YtfiffhcpgojkhaaDoorW.PrintWords Go.Proofs.YtfiffhcpgojkhaaDoorW.PrintLast Go.Proofs.YtfiffhcpgojkhaaDoorW.PrintMore
attribute [local go_sem] setCell_drewN0 max2_int min2_int max_two min_two max_three min_three max_four min_four   -- for this text's walks alone
set_option linter.unusedVariables false
set_option linter.unusedSimpArgs false

theorem t29 : ∀ n, TrodsAt Tryd.prog 29 k29 W29 n
 | 0 => trods_zero
 | n + 1 => trods_iso (fun p => ⟨p.1, p.2⟩) (fun _ => rfl) (trods_array (fs := [(0, 3), (1, 3)]) Tryd.underlying29 (by kernel_rfl) (by kernel_rfl) (fields_cons (d := (Kd.int .i64)) (o' := 1) (by kernel_rfl) rfl (trods_int Tryd.underlying3 n) (fields_one (d := (Kd.int .i64)) (by kernel_rfl) (trods_int Tryd.underlying3 n))))
theorem t35 : ∀ n, TrodsAt Tryd.prog 35 k35 W35 n
 | 0 => trods_zero
 | n + 1 => trods_iso (fun p => ⟨p.1, p.2.1, p.2.2⟩) (fun _ => rfl) (trods_struct (fs := [(0, 3), (1, 26), (2, 3)]) Tryd.underlying35 rfl (by kernel_rfl) (fields_cons (d := (Kd.int .i64)) (o' := 1) (by kernel_rfl) rfl (trods_int Tryd.underlying3 n) (fields_cons (d := (Kd.slice 3 (Kd.int .i64))) (o' := 2) (by kernel_rfl) rfl (trods_slice' (d := (Kd.int .i64)) Tryd.underlying26 (by kernel_rfl) (trods_int Tryd.underlying3 n)) (fields_one (d := (Kd.int .i64)) (by kernel_rfl) (trods_int Tryd.underlying3 n)))))
end Go.Proofs.YtfiffhcpgojkhaaDoor.QLoopNests
