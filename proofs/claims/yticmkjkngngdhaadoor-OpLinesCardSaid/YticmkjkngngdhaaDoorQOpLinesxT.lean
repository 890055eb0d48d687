-- Printed by a program of this session's over the kit's printer (wip/patch_print.py).
import Derived.Test.YticmkjkngngdhaaDoorQOpLinesx0
import Derived.Test.YticmkjkngngdhaaDoorTrods
import Derived.KernelRfl
namespace Go.Proofs.YticmkjkngngdhaaDoor.QOpLines
open Go.RowKit Go.Proofs.YticmkjkngngdhaaDoor Go.Proofs.YticmkjkngngdhaaDoorW.PrintWords Go.Proofs.YticmkjkngngdhaaDoorW.PrintLast Go.Proofs.YticmkjkngngdhaaDoorW.PrintMore
attribute [local go_sem] max2_int min2_int max_two min_two max_three min_three max_four min_four   -- for this text's walks alone
set_option linter.unusedVariables false
set_option linter.unusedSimpArgs false

theorem t41 : ∀ n, TrodsAt Tryd.prog 41 k41 W41 n
 | 0 => trods_zero
 | n + 1 => trods_iso (fun p => ⟨p.1, p.2.1, p.2.2⟩) (fun _ => rfl) (trods_struct (fs := [(0, 3), (1, 3), (2, 3)]) Tryd.underlying41 rfl (by kernel_rfl) (fields_cons (d := (Kd.int .i64)) (o' := 1) (by kernel_rfl) rfl (trods_int Tryd.underlying3 n) (fields_cons (d := (Kd.int .i64)) (o' := 2) (by kernel_rfl) rfl (trods_int Tryd.underlying3 n) (fields_one (d := (Kd.int .i64)) (by kernel_rfl) (trods_int Tryd.underlying3 n)))))
end Go.Proofs.YticmkjkngngdhaaDoor.QOpLines
