-- Printed by a program of this session's over the kit's printer (wip/patch_print.py).
import Derived.Test.YticmkjkngngdhaaDoorQExprTellsx0
import Derived.Test.YticmkjkngngdhaaDoorTrods
import Derived.KernelRfl
namespace Go.Proofs.YticmkjkngngdhaaDoor.QExprTells
open Go.RowKit Go.Proofs.YticmkjkngngdhaaDoor Go.Proofs.YticmkjkngngdhaaDoorW.PrintWords Go.Proofs.YticmkjkngngdhaaDoorW.PrintLast Go.Proofs.YticmkjkngngdhaaDoorW.PrintMore
attribute [local go_sem] max2_int min2_int max_two min_two max_three min_three max_four min_four   -- for this text's walks alone
set_option linter.unusedVariables false
set_option linter.unusedSimpArgs false

theorem t55 : ∀ n, TrodsAt Tryd.prog 55 k55 W55 n := trods_fix (fun n d hd h => (trods_iso (fun p => ⟨p.1, p.2.1, p.2.2.1, p.2.2.2.1, p.2.2.2.2⟩) (fun _ => rfl) (trods_struct (fs := [(0, 3), (1, 3), (2, 3), (3, 3), (4, 53)]) Tryd.underlying55 rfl (show Tryd.prog.cellsOf 55 = 5 by kernel_rfl) (fields_cons (d := (Kd.int .i64)) (o' := 1) (by kernel_rfl) rfl (trods_int Tryd.underlying3 n) (fields_cons (d := (Kd.int .i64)) (o' := 2) (by kernel_rfl) rfl (trods_int Tryd.underlying3 n) (fields_cons (d := (Kd.int .i64)) (o' := 3) (by kernel_rfl) rfl (trods_int Tryd.underlying3 n) (fields_cons (d := (Kd.int .i64)) (o' := 4) (by kernel_rfl) rfl (trods_int Tryd.underlying3 n) (fields_one (d := (Kd.slice 55 d)) (show Tryd.prog.cellsOf 53 = 1 by kernel_rfl) (trods_slice' Tryd.underlying53 ((show Tryd.prog.cellsOf 55 = 5 by kernel_rfl).trans hd.symm) h)))))))).imp (fun x h => W55.of h))
theorem t68 : ∀ n, TrodsAt Tryd.prog 68 k68 W68 n
 | 0 => trods_zero
 | n + 1 => trods_iso (fun p => ⟨p.1, p.2⟩) (fun _ => rfl) (trods_struct (fs := [(0, 9), (1, 3)]) Tryd.underlying68 rfl (by kernel_rfl) (fields_cons (d := Kd.string) (o' := 1) (by kernel_rfl) rfl (trods_string Tryd.underlying9 n) (fields_one (d := (Kd.int .i64)) (by kernel_rfl) (trods_int Tryd.underlying3 n))))
theorem t66 : ∀ n, TrodsAt Tryd.prog 66 k66 W66 n
 | 0 => trods_zero
 | n + 1 => trods_iso (fun p => ⟨p.1, p.2.1, p.2.2.1, p.2.2.2.1, p.2.2.2.2⟩) (fun _ => rfl) (trods_struct (fs := [(0, 9), (1, 3), (2, 3), (3, 3), (4, 3)]) Tryd.underlying66 rfl (by kernel_rfl) (fields_cons (d := Kd.string) (o' := 1) (by kernel_rfl) rfl (trods_string Tryd.underlying9 n) (fields_cons (d := (Kd.int .i64)) (o' := 2) (by kernel_rfl) rfl (trods_int Tryd.underlying3 n) (fields_cons (d := (Kd.int .i64)) (o' := 3) (by kernel_rfl) rfl (trods_int Tryd.underlying3 n) (fields_cons (d := (Kd.int .i64)) (o' := 4) (by kernel_rfl) rfl (trods_int Tryd.underlying3 n) (fields_one (d := (Kd.int .i64)) (by kernel_rfl) (trods_int Tryd.underlying3 n)))))))
theorem t107 : ∀ n, TrodsAt Tryd.prog 107 k107 W107 n
 | 0 => trods_zero
 | n + 1 => trods_iso (fun p => ⟨p.1, p.2⟩) (fun _ => rfl) (trods_struct (fs := [(0, 59), (1, 3)]) Tryd.underlying107 rfl (by kernel_rfl) (fields_cons (d := (Kd.slice 3 (Kd.int .i64))) (o' := 1) (by kernel_rfl) rfl (trods_slice' (d := (Kd.int .i64)) Tryd.underlying59 (by kernel_rfl) (trods_int Tryd.underlying3 n)) (fields_one (d := (Kd.int .i64)) (by kernel_rfl) (trods_int Tryd.underlying3 n))))
end Go.Proofs.YticmkjkngngdhaaDoor.QExprTells
