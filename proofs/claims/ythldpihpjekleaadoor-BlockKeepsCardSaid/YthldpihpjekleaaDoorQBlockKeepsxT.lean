-- Printed by a program of this session's over the kit's printer (wip/patch_print.py).
import Derived.Test.YthldpihpjekleaaDoorQBlockKeepsx0
import Derived.Test.YthldpihpjekleaaDoorTrods
import Derived.KernelRfl
namespace Go.Proofs.YthldpihpjekleaaDoor.QBlockKeeps
open Go.RowKit Go.Proofs.YthldpihpjekleaaDoor Go.Proofs.YthldpihpjekleaaDoorW.PrintWords Go.Proofs.YthldpihpjekleaaDoorW.PrintLast Go.Proofs.YthldpihpjekleaaDoorW.PrintMore
attribute [local go_sem] setCell_drewN0 max2_int min2_int max_two min_two max_three min_three max_four min_four   -- for this text's walks alone
set_option linter.unusedVariables false
set_option linter.unusedSimpArgs false

theorem t22 : ∀ n, TrodsAt Tryd.prog 22 k22 W22 n
 | 0 => trods_zero
 | n + 1 => trods_iso (fun p => ⟨p.1, p.2.1, p.2.2.1, p.2.2.2.1, p.2.2.2.2.1, p.2.2.2.2.2.1, p.2.2.2.2.2.2.1, p.2.2.2.2.2.2.2.1, p.2.2.2.2.2.2.2.2.1, p.2.2.2.2.2.2.2.2.2⟩) (fun _ => rfl) (trods_array (fs := [(0, 3), (1, 3), (2, 3), (3, 3), (4, 3), (5, 3), (6, 3), (7, 3), (8, 3), (9, 3)]) Tryd.underlying22 (by kernel_rfl) (by kernel_rfl) (fields_cons (d := (Kd.int .i64)) (o' := 1) (by kernel_rfl) rfl (trods_int Tryd.underlying3 n) (fields_cons (d := (Kd.int .i64)) (o' := 2) (by kernel_rfl) rfl (trods_int Tryd.underlying3 n) (fields_cons (d := (Kd.int .i64)) (o' := 3) (by kernel_rfl) rfl (trods_int Tryd.underlying3 n) (fields_cons (d := (Kd.int .i64)) (o' := 4) (by kernel_rfl) rfl (trods_int Tryd.underlying3 n) (fields_cons (d := (Kd.int .i64)) (o' := 5) (by kernel_rfl) rfl (trods_int Tryd.underlying3 n) (fields_cons (d := (Kd.int .i64)) (o' := 6) (by kernel_rfl) rfl (trods_int Tryd.underlying3 n) (fields_cons (d := (Kd.int .i64)) (o' := 7) (by kernel_rfl) rfl (trods_int Tryd.underlying3 n) (fields_cons (d := (Kd.int .i64)) (o' := 8) (by kernel_rfl) rfl (trods_int Tryd.underlying3 n) (fields_cons (d := (Kd.int .i64)) (o' := 9) (by kernel_rfl) rfl (trods_int Tryd.underlying3 n) (fields_one (d := (Kd.int .i64)) (by kernel_rfl) (trods_int Tryd.underlying3 n))))))))))))
theorem t24 : ∀ n, TrodsAt Tryd.prog 24 k24 W24 n
 | 0 => trods_zero
 | n + 1 => trods_iso (fun p => ⟨p⟩) (fun _ => rfl) (trods_struct (fs := [(0, 22)]) Tryd.underlying24 rfl (by kernel_rfl) (fields_one (d := k22) (by kernel_rfl) (t22 n)))
theorem t25 : ∀ n, TrodsAt Tryd.prog 25 k25 W25 n
 | 0 => trods_zero
 | n + 1 => trods_iso (fun p => ⟨p.1, p.2.1, p.2.2⟩) (fun _ => rfl) (trods_array (fs := [(0, 3), (1, 3), (2, 3)]) Tryd.underlying25 (by kernel_rfl) (by kernel_rfl) (fields_cons (d := (Kd.int .i64)) (o' := 1) (by kernel_rfl) rfl (trods_int Tryd.underlying3 n) (fields_cons (d := (Kd.int .i64)) (o' := 2) (by kernel_rfl) rfl (trods_int Tryd.underlying3 n) (fields_one (d := (Kd.int .i64)) (by kernel_rfl) (trods_int Tryd.underlying3 n)))))
end Go.Proofs.YthldpihpjekleaaDoor.QBlockKeeps
