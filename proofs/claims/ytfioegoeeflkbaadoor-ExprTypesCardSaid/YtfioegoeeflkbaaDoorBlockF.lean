/- block.Field, out of block's table. The table's cells are a premise, which the row's own list gives. -/
import Derived.Test.YtfioegoeeflkbaaDoorBlock
import Derived.RegionTactic
namespace Go.Proofs.YtfioegoeeflkbaaDoor
set_option maxRecDepth 20000
open Go.RowKit
set_option linter.unusedSimpArgs false
set_option linter.unusedVariables false
theorem below_drewF {B : Nat} {w W : World} (h : Below B w W) : Below B w W.drew := ⟨h.os, h.tape, h.output, h.size, h.block⟩
set_option maxHeartbeats 1000000 in
theorem block_Field_0 (z : ByteArray) (m : Int) (s0 : ByteArray) (t0 : Int) (s1 : ByteArray) (t1 : Int) (s2 : ByteArray) (t2 : Int) (s3 : ByteArray) (t3 : Int) (s4 : ByteArray) (t4 : Int) (s5 : ByteArray) (t5 : Int) (s6 : ByteArray) (t6 : Int) (s7 : ByteArray) (t7 : Int) (k c : Int) (hlt : 0 < c) (w : World) (hF : Calls Tryd.prog 125 #[.int .i64 k] w fun e w' => e = .returned (.int .i64 c) ∧ Below w.heap.size w w') (hof : ∀ W, Below w.heap.size w W → Calls Tryd.prog 126 #[.int .i64 k] W fun e w' => e = .returned (.agg #[.string z, .int .i64 m, .string s0, .int .i64 t0, .string s1, .int .i64 t1, .string s2, .int .i64 t2, .string s3, .int .i64 t3, .string s4, .int .i64 t4, .string s5, .int .i64 t5, .string s6, .int .i64 t6, .string s7, .int .i64 t7]) ∧ Below W.heap.size W w') :
    Calls Tryd.prog 100 #[.int .i64 k, .int .i64 0] w fun e w' => e = .returned (.tuple #[.string s0, .int .i64 t0]) ∧ Below w.heap.size w w' := by
  have hfd : ∀ W : World, (Instr.field 167 (.agg #[.string z, .int .i64 m, .string s0, .int .i64 t0, .string s1, .int .i64 t1, .string s2, .int .i64 t2, .string s3, .int .i64 t3, .string s4, .int .i64 t4, .string s5, .int .i64 t5, .string s6, .int .i64 t6, .string s7, .int .i64 t7]) 2).run Tryd.prog W = .ok (.agg #[.string s0, .int .i64 t0, .string s1, .int .i64 t1, .string s2, .int .i64 t2, .string s3, .int .i64 t3, .string s4, .int .i64 t4, .string s5, .int .i64 t5, .string s6, .int .i64 t6, .string s7, .int .i64 t7]) W := fun W => by rfl
  have hix : ∀ W : World, (Instr.index 165 (.agg #[.string s0, .int .i64 t0, .string s1, .int .i64 t1, .string s2, .int .i64 t2, .string s3, .int .i64 t3, .string s4, .int .i64 t4, .string s5, .int .i64 t5, .string s6, .int .i64 t6, .string s7, .int .i64 t7]) (.int .i64 0)).run Tryd.prog W = .ok (.agg #[.string s0, .int .i64 t0]) W := fun W => by rfl
  have hcl : decide (c ≤ 0) = false := by simp; omega
  go_enter Tryd.func100, Tryd.ntmps100
  go_wp2_with (first | (go_at_call 125; refine hF.mono ?_; rintro e w1 ⟨rfl, hb1⟩) | (go_at_call 126; refine (hof _ hb1).mono ?_; rintro e w2 ⟨rfl, hb2⟩))
  go_region
  all_goals (go_wp2; go_ret2; exact ⟨rfl, (by have h0 := hb1.trans (hb2.mono hb1.size); repeat (first | exact h0 | refine balB ?_ (by have := h0.size; first | omega | (simp; omega)) _ | refine below_drewF ?_))⟩)
set_option maxHeartbeats 1000000 in
theorem block_Field_1 (z : ByteArray) (m : Int) (s0 : ByteArray) (t0 : Int) (s1 : ByteArray) (t1 : Int) (s2 : ByteArray) (t2 : Int) (s3 : ByteArray) (t3 : Int) (s4 : ByteArray) (t4 : Int) (s5 : ByteArray) (t5 : Int) (s6 : ByteArray) (t6 : Int) (s7 : ByteArray) (t7 : Int) (k c : Int) (hlt : 1 < c) (w : World) (hF : Calls Tryd.prog 125 #[.int .i64 k] w fun e w' => e = .returned (.int .i64 c) ∧ Below w.heap.size w w') (hof : ∀ W, Below w.heap.size w W → Calls Tryd.prog 126 #[.int .i64 k] W fun e w' => e = .returned (.agg #[.string z, .int .i64 m, .string s0, .int .i64 t0, .string s1, .int .i64 t1, .string s2, .int .i64 t2, .string s3, .int .i64 t3, .string s4, .int .i64 t4, .string s5, .int .i64 t5, .string s6, .int .i64 t6, .string s7, .int .i64 t7]) ∧ Below W.heap.size W w') :
    Calls Tryd.prog 100 #[.int .i64 k, .int .i64 1] w fun e w' => e = .returned (.tuple #[.string s1, .int .i64 t1]) ∧ Below w.heap.size w w' := by
  have hfd : ∀ W : World, (Instr.field 167 (.agg #[.string z, .int .i64 m, .string s0, .int .i64 t0, .string s1, .int .i64 t1, .string s2, .int .i64 t2, .string s3, .int .i64 t3, .string s4, .int .i64 t4, .string s5, .int .i64 t5, .string s6, .int .i64 t6, .string s7, .int .i64 t7]) 2).run Tryd.prog W = .ok (.agg #[.string s0, .int .i64 t0, .string s1, .int .i64 t1, .string s2, .int .i64 t2, .string s3, .int .i64 t3, .string s4, .int .i64 t4, .string s5, .int .i64 t5, .string s6, .int .i64 t6, .string s7, .int .i64 t7]) W := fun W => by rfl
  have hix : ∀ W : World, (Instr.index 165 (.agg #[.string s0, .int .i64 t0, .string s1, .int .i64 t1, .string s2, .int .i64 t2, .string s3, .int .i64 t3, .string s4, .int .i64 t4, .string s5, .int .i64 t5, .string s6, .int .i64 t6, .string s7, .int .i64 t7]) (.int .i64 1)).run Tryd.prog W = .ok (.agg #[.string s1, .int .i64 t1]) W := fun W => by rfl
  have hcl : decide (c ≤ 1) = false := by simp; omega
  go_enter Tryd.func100, Tryd.ntmps100
  go_wp2_with (first | (go_at_call 125; refine hF.mono ?_; rintro e w1 ⟨rfl, hb1⟩) | (go_at_call 126; refine (hof _ hb1).mono ?_; rintro e w2 ⟨rfl, hb2⟩))
  go_region
  all_goals (go_wp2; go_ret2; exact ⟨rfl, (by have h0 := hb1.trans (hb2.mono hb1.size); repeat (first | exact h0 | refine balB ?_ (by have := h0.size; first | omega | (simp; omega)) _ | refine below_drewF ?_))⟩)
set_option maxHeartbeats 1000000 in
theorem block_Field_2 (z : ByteArray) (m : Int) (s0 : ByteArray) (t0 : Int) (s1 : ByteArray) (t1 : Int) (s2 : ByteArray) (t2 : Int) (s3 : ByteArray) (t3 : Int) (s4 : ByteArray) (t4 : Int) (s5 : ByteArray) (t5 : Int) (s6 : ByteArray) (t6 : Int) (s7 : ByteArray) (t7 : Int) (k c : Int) (hlt : 2 < c) (w : World) (hF : Calls Tryd.prog 125 #[.int .i64 k] w fun e w' => e = .returned (.int .i64 c) ∧ Below w.heap.size w w') (hof : ∀ W, Below w.heap.size w W → Calls Tryd.prog 126 #[.int .i64 k] W fun e w' => e = .returned (.agg #[.string z, .int .i64 m, .string s0, .int .i64 t0, .string s1, .int .i64 t1, .string s2, .int .i64 t2, .string s3, .int .i64 t3, .string s4, .int .i64 t4, .string s5, .int .i64 t5, .string s6, .int .i64 t6, .string s7, .int .i64 t7]) ∧ Below W.heap.size W w') :
    Calls Tryd.prog 100 #[.int .i64 k, .int .i64 2] w fun e w' => e = .returned (.tuple #[.string s2, .int .i64 t2]) ∧ Below w.heap.size w w' := by
  have hfd : ∀ W : World, (Instr.field 167 (.agg #[.string z, .int .i64 m, .string s0, .int .i64 t0, .string s1, .int .i64 t1, .string s2, .int .i64 t2, .string s3, .int .i64 t3, .string s4, .int .i64 t4, .string s5, .int .i64 t5, .string s6, .int .i64 t6, .string s7, .int .i64 t7]) 2).run Tryd.prog W = .ok (.agg #[.string s0, .int .i64 t0, .string s1, .int .i64 t1, .string s2, .int .i64 t2, .string s3, .int .i64 t3, .string s4, .int .i64 t4, .string s5, .int .i64 t5, .string s6, .int .i64 t6, .string s7, .int .i64 t7]) W := fun W => by rfl
  have hix : ∀ W : World, (Instr.index 165 (.agg #[.string s0, .int .i64 t0, .string s1, .int .i64 t1, .string s2, .int .i64 t2, .string s3, .int .i64 t3, .string s4, .int .i64 t4, .string s5, .int .i64 t5, .string s6, .int .i64 t6, .string s7, .int .i64 t7]) (.int .i64 2)).run Tryd.prog W = .ok (.agg #[.string s2, .int .i64 t2]) W := fun W => by rfl
  have hcl : decide (c ≤ 2) = false := by simp; omega
  go_enter Tryd.func100, Tryd.ntmps100
  go_wp2_with (first | (go_at_call 125; refine hF.mono ?_; rintro e w1 ⟨rfl, hb1⟩) | (go_at_call 126; refine (hof _ hb1).mono ?_; rintro e w2 ⟨rfl, hb2⟩))
  go_region
  all_goals (go_wp2; go_ret2; exact ⟨rfl, (by have h0 := hb1.trans (hb2.mono hb1.size); repeat (first | exact h0 | refine balB ?_ (by have := h0.size; first | omega | (simp; omega)) _ | refine below_drewF ?_))⟩)
set_option maxHeartbeats 1000000 in
theorem block_Field_3 (z : ByteArray) (m : Int) (s0 : ByteArray) (t0 : Int) (s1 : ByteArray) (t1 : Int) (s2 : ByteArray) (t2 : Int) (s3 : ByteArray) (t3 : Int) (s4 : ByteArray) (t4 : Int) (s5 : ByteArray) (t5 : Int) (s6 : ByteArray) (t6 : Int) (s7 : ByteArray) (t7 : Int) (k c : Int) (hlt : 3 < c) (w : World) (hF : Calls Tryd.prog 125 #[.int .i64 k] w fun e w' => e = .returned (.int .i64 c) ∧ Below w.heap.size w w') (hof : ∀ W, Below w.heap.size w W → Calls Tryd.prog 126 #[.int .i64 k] W fun e w' => e = .returned (.agg #[.string z, .int .i64 m, .string s0, .int .i64 t0, .string s1, .int .i64 t1, .string s2, .int .i64 t2, .string s3, .int .i64 t3, .string s4, .int .i64 t4, .string s5, .int .i64 t5, .string s6, .int .i64 t6, .string s7, .int .i64 t7]) ∧ Below W.heap.size W w') :
    Calls Tryd.prog 100 #[.int .i64 k, .int .i64 3] w fun e w' => e = .returned (.tuple #[.string s3, .int .i64 t3]) ∧ Below w.heap.size w w' := by
  have hfd : ∀ W : World, (Instr.field 167 (.agg #[.string z, .int .i64 m, .string s0, .int .i64 t0, .string s1, .int .i64 t1, .string s2, .int .i64 t2, .string s3, .int .i64 t3, .string s4, .int .i64 t4, .string s5, .int .i64 t5, .string s6, .int .i64 t6, .string s7, .int .i64 t7]) 2).run Tryd.prog W = .ok (.agg #[.string s0, .int .i64 t0, .string s1, .int .i64 t1, .string s2, .int .i64 t2, .string s3, .int .i64 t3, .string s4, .int .i64 t4, .string s5, .int .i64 t5, .string s6, .int .i64 t6, .string s7, .int .i64 t7]) W := fun W => by rfl
  have hix : ∀ W : World, (Instr.index 165 (.agg #[.string s0, .int .i64 t0, .string s1, .int .i64 t1, .string s2, .int .i64 t2, .string s3, .int .i64 t3, .string s4, .int .i64 t4, .string s5, .int .i64 t5, .string s6, .int .i64 t6, .string s7, .int .i64 t7]) (.int .i64 3)).run Tryd.prog W = .ok (.agg #[.string s3, .int .i64 t3]) W := fun W => by rfl
  have hcl : decide (c ≤ 3) = false := by simp; omega
  go_enter Tryd.func100, Tryd.ntmps100
  go_wp2_with (first | (go_at_call 125; refine hF.mono ?_; rintro e w1 ⟨rfl, hb1⟩) | (go_at_call 126; refine (hof _ hb1).mono ?_; rintro e w2 ⟨rfl, hb2⟩))
  go_region
  all_goals (go_wp2; go_ret2; exact ⟨rfl, (by have h0 := hb1.trans (hb2.mono hb1.size); repeat (first | exact h0 | refine balB ?_ (by have := h0.size; first | omega | (simp; omega)) _ | refine below_drewF ?_))⟩)
set_option maxHeartbeats 1000000 in
theorem block_Field_4 (z : ByteArray) (m : Int) (s0 : ByteArray) (t0 : Int) (s1 : ByteArray) (t1 : Int) (s2 : ByteArray) (t2 : Int) (s3 : ByteArray) (t3 : Int) (s4 : ByteArray) (t4 : Int) (s5 : ByteArray) (t5 : Int) (s6 : ByteArray) (t6 : Int) (s7 : ByteArray) (t7 : Int) (k c : Int) (hlt : 4 < c) (w : World) (hF : Calls Tryd.prog 125 #[.int .i64 k] w fun e w' => e = .returned (.int .i64 c) ∧ Below w.heap.size w w') (hof : ∀ W, Below w.heap.size w W → Calls Tryd.prog 126 #[.int .i64 k] W fun e w' => e = .returned (.agg #[.string z, .int .i64 m, .string s0, .int .i64 t0, .string s1, .int .i64 t1, .string s2, .int .i64 t2, .string s3, .int .i64 t3, .string s4, .int .i64 t4, .string s5, .int .i64 t5, .string s6, .int .i64 t6, .string s7, .int .i64 t7]) ∧ Below W.heap.size W w') :
    Calls Tryd.prog 100 #[.int .i64 k, .int .i64 4] w fun e w' => e = .returned (.tuple #[.string s4, .int .i64 t4]) ∧ Below w.heap.size w w' := by
  have hfd : ∀ W : World, (Instr.field 167 (.agg #[.string z, .int .i64 m, .string s0, .int .i64 t0, .string s1, .int .i64 t1, .string s2, .int .i64 t2, .string s3, .int .i64 t3, .string s4, .int .i64 t4, .string s5, .int .i64 t5, .string s6, .int .i64 t6, .string s7, .int .i64 t7]) 2).run Tryd.prog W = .ok (.agg #[.string s0, .int .i64 t0, .string s1, .int .i64 t1, .string s2, .int .i64 t2, .string s3, .int .i64 t3, .string s4, .int .i64 t4, .string s5, .int .i64 t5, .string s6, .int .i64 t6, .string s7, .int .i64 t7]) W := fun W => by rfl
  have hix : ∀ W : World, (Instr.index 165 (.agg #[.string s0, .int .i64 t0, .string s1, .int .i64 t1, .string s2, .int .i64 t2, .string s3, .int .i64 t3, .string s4, .int .i64 t4, .string s5, .int .i64 t5, .string s6, .int .i64 t6, .string s7, .int .i64 t7]) (.int .i64 4)).run Tryd.prog W = .ok (.agg #[.string s4, .int .i64 t4]) W := fun W => by rfl
  have hcl : decide (c ≤ 4) = false := by simp; omega
  go_enter Tryd.func100, Tryd.ntmps100
  go_wp2_with (first | (go_at_call 125; refine hF.mono ?_; rintro e w1 ⟨rfl, hb1⟩) | (go_at_call 126; refine (hof _ hb1).mono ?_; rintro e w2 ⟨rfl, hb2⟩))
  go_region
  all_goals (go_wp2; go_ret2; exact ⟨rfl, (by have h0 := hb1.trans (hb2.mono hb1.size); repeat (first | exact h0 | refine balB ?_ (by have := h0.size; first | omega | (simp; omega)) _ | refine below_drewF ?_))⟩)
set_option maxHeartbeats 1000000 in
theorem block_Field_5 (z : ByteArray) (m : Int) (s0 : ByteArray) (t0 : Int) (s1 : ByteArray) (t1 : Int) (s2 : ByteArray) (t2 : Int) (s3 : ByteArray) (t3 : Int) (s4 : ByteArray) (t4 : Int) (s5 : ByteArray) (t5 : Int) (s6 : ByteArray) (t6 : Int) (s7 : ByteArray) (t7 : Int) (k c : Int) (hlt : 5 < c) (w : World) (hF : Calls Tryd.prog 125 #[.int .i64 k] w fun e w' => e = .returned (.int .i64 c) ∧ Below w.heap.size w w') (hof : ∀ W, Below w.heap.size w W → Calls Tryd.prog 126 #[.int .i64 k] W fun e w' => e = .returned (.agg #[.string z, .int .i64 m, .string s0, .int .i64 t0, .string s1, .int .i64 t1, .string s2, .int .i64 t2, .string s3, .int .i64 t3, .string s4, .int .i64 t4, .string s5, .int .i64 t5, .string s6, .int .i64 t6, .string s7, .int .i64 t7]) ∧ Below W.heap.size W w') :
    Calls Tryd.prog 100 #[.int .i64 k, .int .i64 5] w fun e w' => e = .returned (.tuple #[.string s5, .int .i64 t5]) ∧ Below w.heap.size w w' := by
  have hfd : ∀ W : World, (Instr.field 167 (.agg #[.string z, .int .i64 m, .string s0, .int .i64 t0, .string s1, .int .i64 t1, .string s2, .int .i64 t2, .string s3, .int .i64 t3, .string s4, .int .i64 t4, .string s5, .int .i64 t5, .string s6, .int .i64 t6, .string s7, .int .i64 t7]) 2).run Tryd.prog W = .ok (.agg #[.string s0, .int .i64 t0, .string s1, .int .i64 t1, .string s2, .int .i64 t2, .string s3, .int .i64 t3, .string s4, .int .i64 t4, .string s5, .int .i64 t5, .string s6, .int .i64 t6, .string s7, .int .i64 t7]) W := fun W => by rfl
  have hix : ∀ W : World, (Instr.index 165 (.agg #[.string s0, .int .i64 t0, .string s1, .int .i64 t1, .string s2, .int .i64 t2, .string s3, .int .i64 t3, .string s4, .int .i64 t4, .string s5, .int .i64 t5, .string s6, .int .i64 t6, .string s7, .int .i64 t7]) (.int .i64 5)).run Tryd.prog W = .ok (.agg #[.string s5, .int .i64 t5]) W := fun W => by rfl
  have hcl : decide (c ≤ 5) = false := by simp; omega
  go_enter Tryd.func100, Tryd.ntmps100
  go_wp2_with (first | (go_at_call 125; refine hF.mono ?_; rintro e w1 ⟨rfl, hb1⟩) | (go_at_call 126; refine (hof _ hb1).mono ?_; rintro e w2 ⟨rfl, hb2⟩))
  go_region
  all_goals (go_wp2; go_ret2; exact ⟨rfl, (by have h0 := hb1.trans (hb2.mono hb1.size); repeat (first | exact h0 | refine balB ?_ (by have := h0.size; first | omega | (simp; omega)) _ | refine below_drewF ?_))⟩)
set_option maxHeartbeats 1000000 in
theorem block_Field_6 (z : ByteArray) (m : Int) (s0 : ByteArray) (t0 : Int) (s1 : ByteArray) (t1 : Int) (s2 : ByteArray) (t2 : Int) (s3 : ByteArray) (t3 : Int) (s4 : ByteArray) (t4 : Int) (s5 : ByteArray) (t5 : Int) (s6 : ByteArray) (t6 : Int) (s7 : ByteArray) (t7 : Int) (k c : Int) (hlt : 6 < c) (w : World) (hF : Calls Tryd.prog 125 #[.int .i64 k] w fun e w' => e = .returned (.int .i64 c) ∧ Below w.heap.size w w') (hof : ∀ W, Below w.heap.size w W → Calls Tryd.prog 126 #[.int .i64 k] W fun e w' => e = .returned (.agg #[.string z, .int .i64 m, .string s0, .int .i64 t0, .string s1, .int .i64 t1, .string s2, .int .i64 t2, .string s3, .int .i64 t3, .string s4, .int .i64 t4, .string s5, .int .i64 t5, .string s6, .int .i64 t6, .string s7, .int .i64 t7]) ∧ Below W.heap.size W w') :
    Calls Tryd.prog 100 #[.int .i64 k, .int .i64 6] w fun e w' => e = .returned (.tuple #[.string s6, .int .i64 t6]) ∧ Below w.heap.size w w' := by
  have hfd : ∀ W : World, (Instr.field 167 (.agg #[.string z, .int .i64 m, .string s0, .int .i64 t0, .string s1, .int .i64 t1, .string s2, .int .i64 t2, .string s3, .int .i64 t3, .string s4, .int .i64 t4, .string s5, .int .i64 t5, .string s6, .int .i64 t6, .string s7, .int .i64 t7]) 2).run Tryd.prog W = .ok (.agg #[.string s0, .int .i64 t0, .string s1, .int .i64 t1, .string s2, .int .i64 t2, .string s3, .int .i64 t3, .string s4, .int .i64 t4, .string s5, .int .i64 t5, .string s6, .int .i64 t6, .string s7, .int .i64 t7]) W := fun W => by rfl
  have hix : ∀ W : World, (Instr.index 165 (.agg #[.string s0, .int .i64 t0, .string s1, .int .i64 t1, .string s2, .int .i64 t2, .string s3, .int .i64 t3, .string s4, .int .i64 t4, .string s5, .int .i64 t5, .string s6, .int .i64 t6, .string s7, .int .i64 t7]) (.int .i64 6)).run Tryd.prog W = .ok (.agg #[.string s6, .int .i64 t6]) W := fun W => by rfl
  have hcl : decide (c ≤ 6) = false := by simp; omega
  go_enter Tryd.func100, Tryd.ntmps100
  go_wp2_with (first | (go_at_call 125; refine hF.mono ?_; rintro e w1 ⟨rfl, hb1⟩) | (go_at_call 126; refine (hof _ hb1).mono ?_; rintro e w2 ⟨rfl, hb2⟩))
  go_region
  all_goals (go_wp2; go_ret2; exact ⟨rfl, (by have h0 := hb1.trans (hb2.mono hb1.size); repeat (first | exact h0 | refine balB ?_ (by have := h0.size; first | omega | (simp; omega)) _ | refine below_drewF ?_))⟩)
set_option maxHeartbeats 1000000 in
theorem block_Field_7 (z : ByteArray) (m : Int) (s0 : ByteArray) (t0 : Int) (s1 : ByteArray) (t1 : Int) (s2 : ByteArray) (t2 : Int) (s3 : ByteArray) (t3 : Int) (s4 : ByteArray) (t4 : Int) (s5 : ByteArray) (t5 : Int) (s6 : ByteArray) (t6 : Int) (s7 : ByteArray) (t7 : Int) (k c : Int) (hlt : 7 < c) (w : World) (hF : Calls Tryd.prog 125 #[.int .i64 k] w fun e w' => e = .returned (.int .i64 c) ∧ Below w.heap.size w w') (hof : ∀ W, Below w.heap.size w W → Calls Tryd.prog 126 #[.int .i64 k] W fun e w' => e = .returned (.agg #[.string z, .int .i64 m, .string s0, .int .i64 t0, .string s1, .int .i64 t1, .string s2, .int .i64 t2, .string s3, .int .i64 t3, .string s4, .int .i64 t4, .string s5, .int .i64 t5, .string s6, .int .i64 t6, .string s7, .int .i64 t7]) ∧ Below W.heap.size W w') :
    Calls Tryd.prog 100 #[.int .i64 k, .int .i64 7] w fun e w' => e = .returned (.tuple #[.string s7, .int .i64 t7]) ∧ Below w.heap.size w w' := by
  have hfd : ∀ W : World, (Instr.field 167 (.agg #[.string z, .int .i64 m, .string s0, .int .i64 t0, .string s1, .int .i64 t1, .string s2, .int .i64 t2, .string s3, .int .i64 t3, .string s4, .int .i64 t4, .string s5, .int .i64 t5, .string s6, .int .i64 t6, .string s7, .int .i64 t7]) 2).run Tryd.prog W = .ok (.agg #[.string s0, .int .i64 t0, .string s1, .int .i64 t1, .string s2, .int .i64 t2, .string s3, .int .i64 t3, .string s4, .int .i64 t4, .string s5, .int .i64 t5, .string s6, .int .i64 t6, .string s7, .int .i64 t7]) W := fun W => by rfl
  have hix : ∀ W : World, (Instr.index 165 (.agg #[.string s0, .int .i64 t0, .string s1, .int .i64 t1, .string s2, .int .i64 t2, .string s3, .int .i64 t3, .string s4, .int .i64 t4, .string s5, .int .i64 t5, .string s6, .int .i64 t6, .string s7, .int .i64 t7]) (.int .i64 7)).run Tryd.prog W = .ok (.agg #[.string s7, .int .i64 t7]) W := fun W => by rfl
  have hcl : decide (c ≤ 7) = false := by simp; omega
  go_enter Tryd.func100, Tryd.ntmps100
  go_wp2_with (first | (go_at_call 125; refine hF.mono ?_; rintro e w1 ⟨rfl, hb1⟩) | (go_at_call 126; refine (hof _ hb1).mono ?_; rintro e w2 ⟨rfl, hb2⟩))
  go_region
  all_goals (go_wp2; go_ret2; exact ⟨rfl, (by have h0 := hb1.trans (hb2.mono hb1.size); repeat (first | exact h0 | refine balB ?_ (by have := h0.size; first | omega | (simp; omega)) _ | refine below_drewF ?_))⟩)
theorem block_Field_out (k i c : Int) (h : i < 0 ∨ c ≤ i) (w : World) (hF : Calls Tryd.prog 125 #[.int .i64 k] w fun e w' => e = .returned (.int .i64 c) ∧ Below w.heap.size w w') : Calls Tryd.prog 100 #[.int .i64 k, .int .i64 i] w fun e w' => e = .returned (.tuple #[.string ⟨#[]⟩, .int .i64 0]) ∧ Below w.heap.size w w' := by
  by_cases h0 : i < 0
  · clear h hF
    go_enter Tryd.func100, Tryd.ntmps100
    go_wp2
    go_ret2
    exact ⟨rfl, Below.refl _ _⟩
  · have hc : c ≤ i := by omega
    have h1 : 0 ≤ i := by omega
    clear h h0
    have e0 : decide (i < 0) = false := by simp; omega
    have e1 : decide (c ≤ i) = true := by simpa using hc
    go_enter Tryd.func100, Tryd.ntmps100
    go_wp2_with (go_at_call 125; refine hF.mono ?_; rintro e w1 ⟨rfl, hb1⟩)
    go_ret2
    exact ⟨rfl, hb1⟩
def blkFnL (k : Int) : List ByteArray := [blkFn0 k, blkFn1 k, blkFn2 k, blkFn3 k, blkFn4 k, blkFn5 k, blkFn6 k, blkFn7 k]
/-- A field's name, and its type. -/
def blkField (k i : Int) : ByteArray × Int := if 0 ≤ i ∧ i < blkCnt k then ((blkFnL k).getD i.toNat ⟨#[]⟩, (blkTypes k).getD i.toNat 0) else (⟨#[]⟩, 0)
theorem block_Field_any (k i : Int) (w : World) (hT : BlockTab w) : Calls Tryd.prog 100 #[.int .i64 k, .int .i64 i] w fun e w' => e = .returned (.tuple #[.string (blkField k i).1, .int .i64 (blkField k i).2]) ∧ Below w.heap.size w w' := by
  have hF := block_Fields_any k w hT
  have hof : ∀ W, Below w.heap.size w W → Calls Tryd.prog 126 #[.int .i64 k] W fun e w' => e = .returned (blkVal k) ∧ Below W.heap.size W w' := fun W hb => block_of_any k W (Tab.below hT hb (Nat.le_refl _))
  by_cases h : 0 ≤ i ∧ i < blkCnt k
  · have hb := (cntF_bd (blkTypes k)).2
    have h8 : (blkTypes k).length = 8 := rfl
    have hi : i < 8 := by have := h.2; unfold blkCnt at this; omega
    have hj : i = 0 ∨ i = 1 ∨ i = 2 ∨ i = 3 ∨ i = 4 ∨ i = 5 ∨ i = 6 ∨ i = 7 := by omega
    unfold blkField
    rw [if_pos h]
    rcases hj with rfl | rfl | rfl | rfl | rfl | rfl | rfl | rfl
    · exact block_Field_0 _ _ _ _ _ _ _ _ _ _ _ _ _ _ _ _ _ _ k _ h.2 w hF hof
    · exact block_Field_1 _ _ _ _ _ _ _ _ _ _ _ _ _ _ _ _ _ _ k _ h.2 w hF hof
    · exact block_Field_2 _ _ _ _ _ _ _ _ _ _ _ _ _ _ _ _ _ _ k _ h.2 w hF hof
    · exact block_Field_3 _ _ _ _ _ _ _ _ _ _ _ _ _ _ _ _ _ _ k _ h.2 w hF hof
    · exact block_Field_4 _ _ _ _ _ _ _ _ _ _ _ _ _ _ _ _ _ _ k _ h.2 w hF hof
    · exact block_Field_5 _ _ _ _ _ _ _ _ _ _ _ _ _ _ _ _ _ _ k _ h.2 w hF hof
    · exact block_Field_6 _ _ _ _ _ _ _ _ _ _ _ _ _ _ _ _ _ _ k _ h.2 w hF hof
    · exact block_Field_7 _ _ _ _ _ _ _ _ _ _ _ _ _ _ _ _ _ _ k _ h.2 w hF hof
  · unfold blkField
    rw [if_neg h]
    exact block_Field_out k i _ (by omega) w hF
end Go.Proofs.YtfioegoeeflkbaaDoor
