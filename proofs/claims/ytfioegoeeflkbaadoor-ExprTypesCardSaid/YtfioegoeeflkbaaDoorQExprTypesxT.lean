-- Printed by a program of this session's over the kit's printer (wip/patch_print.py).
import Derived.Test.YtfioegoeeflkbaaDoorQExprTypesx0
import Derived.Test.YtfioegoeeflkbaaDoorTrods
import Derived.KernelRfl
namespace Go.Proofs.YtfioegoeeflkbaaDoor.QExprTypes
open Go.RowKit Go.Proofs.YtfioegoeeflkbaaDoor Go.Proofs.YtfioegoeeflkbaaDoorW.PrintWords Go.Proofs.YtfioegoeeflkbaaDoorW.PrintLast Go.Proofs.YtfioegoeeflkbaaDoorW.PrintMore
attribute [local go_sem] setCell_drewN0 max2_int min2_int max_two min_two max_three min_three max_four min_four   -- for this text's walks alone
set_option linter.unusedVariables false
set_option linter.unusedSimpArgs false

theorem t125 : ∀ n, TrodsAt Tryd.prog 125 k125 W125 n
 | 0 => trods_zero
 | n + 1 => trods_iso (fun p => ⟨p.1, p.2.1, p.2.2⟩) (fun _ => rfl) (trods_struct (fs := [(0, 3), (1, 3), (2, 3)]) Tryd.underlying125 rfl (by kernel_rfl) (fields_cons (d := (Kd.int .i64)) (o' := 1) (by kernel_rfl) rfl (trods_int Tryd.underlying3 n) (fields_cons (d := (Kd.int .i64)) (o' := 2) (by kernel_rfl) rfl (trods_int Tryd.underlying3 n) (fields_one (d := (Kd.int .i64)) (by kernel_rfl) (trods_int Tryd.underlying3 n)))))
theorem t42 : ∀ n, TrodsAt Tryd.prog 42 k42 W42 n
 | 0 => trods_zero
 | n + 1 => trods_iso (fun p => ⟨p.1, p.2.1, p.2.2.1, p.2.2.2.1, p.2.2.2.2⟩) (fun _ => rfl) (trods_struct (fs := [(0, 9), (1, 3), (2, 3), (3, 3), (4, 3)]) Tryd.underlying42 rfl (by kernel_rfl) (fields_cons (d := Kd.string) (o' := 1) (by kernel_rfl) rfl (trods_string Tryd.underlying9 n) (fields_cons (d := (Kd.int .i64)) (o' := 2) (by kernel_rfl) rfl (trods_int Tryd.underlying3 n) (fields_cons (d := (Kd.int .i64)) (o' := 3) (by kernel_rfl) rfl (trods_int Tryd.underlying3 n) (fields_cons (d := (Kd.int .i64)) (o' := 4) (by kernel_rfl) rfl (trods_int Tryd.underlying3 n) (fields_one (d := (Kd.int .i64)) (by kernel_rfl) (trods_int Tryd.underlying3 n)))))))
theorem t44 : ∀ n, TrodsAt Tryd.prog 44 k44 W44 n
 | 0 => trods_zero
 | n + 1 => trods_iso (fun p => ⟨p.1, p.2⟩) (fun _ => rfl) (trods_struct (fs := [(0, 9), (1, 3)]) Tryd.underlying44 rfl (by kernel_rfl) (fields_cons (d := Kd.string) (o' := 1) (by kernel_rfl) rfl (trods_string Tryd.underlying9 n) (fields_one (d := (Kd.int .i64)) (by kernel_rfl) (trods_int Tryd.underlying3 n))))
theorem t96 : ∀ n, TrodsAt Tryd.prog 96 k96 W96 n
 | 0 => trods_zero
 | n + 1 => trods_iso (fun p => ⟨p.1, p.2.1, p.2.2.1, p.2.2.2.1, p.2.2.2.2⟩) (fun _ => rfl) (trods_struct (fs := [(0, 9), (1, 35), (2, 3), (3, 35), (4, 75)]) Tryd.underlying96 rfl (by kernel_rfl) (fields_cons (d := Kd.string) (o' := 1) (by kernel_rfl) rfl (trods_string Tryd.underlying9 n) (fields_cons (d := (Kd.slice 3 (Kd.int .i64))) (o' := 2) (by kernel_rfl) rfl (trods_slice' (d := (Kd.int .i64)) Tryd.underlying35 (by kernel_rfl) (trods_int Tryd.underlying3 n)) (fields_cons (d := (Kd.int .i64)) (o' := 3) (by kernel_rfl) rfl (trods_int Tryd.underlying3 n) (fields_cons (d := (Kd.slice 3 (Kd.int .i64))) (o' := 4) (by kernel_rfl) rfl (trods_slice' (d := (Kd.int .i64)) Tryd.underlying35 (by kernel_rfl) (trods_int Tryd.underlying3 n)) (fields_one (d := (Kd.slice 125 k125)) (by kernel_rfl) (trods_slice' (d := k125) Tryd.underlying75 (by kernel_rfl) (t125 n))))))))
theorem t82 : ∀ n, TrodsAt Tryd.prog 82 k82 W82 n
 | 0 => trods_zero
 | n + 1 => trods_iso (fun p => ⟨p.1, p.2⟩) (fun _ => rfl) (trods_struct (fs := [(0, 3), (1, 3)]) Tryd.underlying82 rfl (by kernel_rfl) (fields_cons (d := (Kd.int .i64)) (o' := 1) (by kernel_rfl) rfl (trods_int Tryd.underlying3 n) (fields_one (d := (Kd.int .i64)) (by kernel_rfl) (trods_int Tryd.underlying3 n))))
theorem t30 : ∀ n, TrodsAt Tryd.prog 30 k30 W30 n := trods_fix (fun n d hd h => (trods_iso (fun p => ⟨p.1, p.2.1, p.2.2.1, p.2.2.2.1, p.2.2.2.2⟩) (fun _ => rfl) (trods_struct (fs := [(0, 3), (1, 3), (2, 3), (3, 3), (4, 28)]) Tryd.underlying30 rfl (show Tryd.prog.cellsOf 30 = 5 by kernel_rfl) (fields_cons (d := (Kd.int .i64)) (o' := 1) (by kernel_rfl) rfl (trods_int Tryd.underlying3 n) (fields_cons (d := (Kd.int .i64)) (o' := 2) (by kernel_rfl) rfl (trods_int Tryd.underlying3 n) (fields_cons (d := (Kd.int .i64)) (o' := 3) (by kernel_rfl) rfl (trods_int Tryd.underlying3 n) (fields_cons (d := (Kd.int .i64)) (o' := 4) (by kernel_rfl) rfl (trods_int Tryd.underlying3 n) (fields_one (d := (Kd.slice 30 d)) (show Tryd.prog.cellsOf 28 = 1 by kernel_rfl) (trods_slice' Tryd.underlying28 ((show Tryd.prog.cellsOf 30 = 5 by kernel_rfl).trans hd.symm) h)))))))).imp (fun x h => W30.of h))
theorem t99 : ∀ n, TrodsAt Tryd.prog 99 k99 W99 n
 | 0 => trods_zero
 | n + 1 => trods_iso (fun p => ⟨p.1, p.2⟩) (fun _ => rfl) (trods_struct (fs := [(0, 35), (1, 3)]) Tryd.underlying99 rfl (by kernel_rfl) (fields_cons (d := (Kd.slice 3 (Kd.int .i64))) (o' := 1) (by kernel_rfl) rfl (trods_slice' (d := (Kd.int .i64)) Tryd.underlying35 (by kernel_rfl) (trods_int Tryd.underlying3 n)) (fields_one (d := (Kd.int .i64)) (by kernel_rfl) (trods_int Tryd.underlying3 n))))
theorem t27 : ∀ n, TrodsAt Tryd.prog 27 k27 W27 n
 | 0 => trods_zero
 | n + 1 => trods_iso (fun p => ⟨p.1, p.2.1, p.2.2.1, p.2.2.2⟩) (fun _ => rfl) (trods_struct (fs := [(0, 22), (1, 23), (2, 24), (3, 25)]) Tryd.underlying27 rfl (by kernel_rfl) (fields_cons (d := (Kd.slice 82 k82)) (o' := 1) (by kernel_rfl) rfl (trods_slice' (d := k82) Tryd.underlying22 (by kernel_rfl) (t82 n)) (fields_cons (d := (Kd.slice 42 k42)) (o' := 2) (by kernel_rfl) rfl (trods_slice' (d := k42) Tryd.underlying23 (by kernel_rfl) (t42 n)) (fields_cons (d := (Kd.slice 44 k44)) (o' := 3) (by kernel_rfl) rfl (trods_slice' (d := k44) Tryd.underlying24 (by kernel_rfl) (t44 n)) (fields_one (d := (Kd.slice 96 k96)) (by kernel_rfl) (trods_slice' (d := k96) Tryd.underlying25 (by kernel_rfl) (t96 n)))))))
end Go.Proofs.YtfioegoeeflkbaaDoor.QExprTypes
