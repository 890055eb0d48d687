/- The contracts of count.Step's closures. No condition. -/
import Derived.Test.YthldpihpjekleaaDoorBase
namespace Go.Proofs.YthldpihpjekleaaDoor
open Go.RowKit
set_option linter.unusedSimpArgs false
def risen (v u : Int) : Bool := v != 0 && u == 0
def turnS (c : Int) (up down : Bool) : Int := if up ∧ ¬ down ∧ c < 32767 then wrap64 (c + 1) else if down ∧ ¬ up ∧ -32768 < c then wrap64 (c - 1) else c
def ctuC (x : In) : Int := if x.a1 != 0 then 0 else turnS x.a4 (risen x.a0 x.a5) false
def ctuS (x : In) : In := { x with a5 := bi (x.a0 != 0), a4 := ctuC x, a3 := bi (decide (x.a2 ≤ ctuC x)) }
def ctdC (x : In) : Int := if x.a1 != 0 then x.a2 else turnS x.a4 false (risen x.a0 x.a5)
def ctdS (x : In) : In := { x with a5 := bi (x.a0 != 0), a4 := ctdC x, a3 := bi (decide (ctdC x ≤ 0)) }
def ctudC (x : In) : Int := if x.a2 != 0 then 0 else if x.a3 != 0 then x.a4 else turnS x.a7 (risen x.a0 x.a8) (risen x.a1 x.a9)
def ctudS (x : In) : In :=
  { x with a8 := bi (x.a0 != 0), a9 := bi (x.a1 != 0), a7 := ctudC x, a5 := bi (decide (x.a4 ≤ ctudC x)), a6 := bi (decide (ctudC x ≤ 0)) }
def countS (k : Int) (x : In) : In := if k = 4 then ctuS x else if k = 5 then ctdS x else if k = 6 then ctudS x else x

theorem turnS_ff (c : Int) : turnS c false false = c := by simp [turnS]
theorem turnS_tt (c : Int) : turnS c true true = c := by simp [turnS]
theorem bit_any (b : Bool) (w : World) : Calls Tryd.prog 74 #[.bool b] w fun e w' => e = .returned (.int .i64 (bi b)) ∧ w = w' := by
  cases b <;>
  · go_enter Tryd.func74, Tryd.ntmps74
    go_wp2
    go_ret
    exact ⟨rfl, rfl⟩



theorem on_any (i : Int) (n : Nat) (hi : (i = 0 ∧ n = 0) ∨ (i = 1 ∧ n = 1) ∨ (i = 2 ∧ n = 2) ∨ (i = 3 ∧ n = 3)) (b : Nat) (v : Int) (w : World) (hc : w.cell? ⟨b, n, none⟩ = some (.int .i64 v)) :
    Calls Tryd.prog 72 #[.int .i64 i, .pointer (some ⟨b, 0, none⟩)] w fun e w' => e = .returned (.bool (v != 0)) ∧ w = w' := by
  rcases hi with ⟨rfl, rfl⟩ | ⟨rfl, rfl⟩ | ⟨rfl, rfl⟩ | ⟨rfl, rfl⟩ <;>
  · go_enter Tryd.func72, Tryd.ntmps72
    go_wp2
    go_ret
    exact ⟨rfl, rfl⟩

set_option maxHeartbeats 1000000 in
theorem rises_any (i j : Int) (n m : Nat) (hi : (i = 0 ∧ n = 0 ∧ j = 5 ∧ m = 5) ∨ (i = 0 ∧ n = 0 ∧ j = 8 ∧ m = 8) ∨ (i = 1 ∧ n = 1 ∧ j = 9 ∧ m = 9)) (b c : Nat) (v u : Int) (w : World) (hc : w.cell? ⟨b, n, none⟩ = some (.int .i64 v))
    (hm : w.cell? ⟨b, m, none⟩ = some (.int .i64 u)) (hf : w.cell? ⟨c, 0, none⟩ = some (.func (Fn.func 72) #[] #[.pointer (some ⟨b, 0, none⟩)])) (hz : w.frozen? ⟨b, m, none⟩ = false) :
    Calls Tryd.prog 73 #[.int .i64 i, .int .i64 j, .pointer (some ⟨c, 0, none⟩), .pointer (some ⟨b, 0, none⟩)] w fun e w' => e = .returned (.bool (risen v u)) ∧ w' = w.setCell ⟨b, m, none⟩ (.int .i64 (bi (v != 0))) := by
  by_cases hv : v = 0
  all_goals rcases hi with ⟨rfl, rfl, rfl, rfl⟩ | ⟨rfl, rfl, rfl, rfl⟩ | ⟨rfl, rfl, rfl, rfl⟩
  all_goals
    go_enter Tryd.func73, Tryd.ntmps73
    go_wp2_with (first | (go_at_call 72; first | ((with_reducible refine (on_any 0 0 (by decide) b v _ (by assumption)).mono ?_); rintro e w' ⟨rfl, rfl⟩) | ((with_reducible refine (on_any 1 1 (by decide) b v _ (by assumption)).mono ?_); rintro e w' ⟨rfl, rfl⟩)) | (go_at_call 74; refine (bit_any _ _).mono ?_; rintro e w' ⟨rfl, rfl⟩))
    go_ret
    exact ⟨by simp [risen, *], by simp [*]⟩

set_option maxHeartbeats 1000000 in
theorem turn_any (i : Int) (n : Nat) (hi : (i = 4 ∧ n = 4) ∨ (i = 7 ∧ n = 7)) (up down : Bool) (b : Nat) (v : Int) (w : World) (hc : w.cell? ⟨b, n, none⟩ = some (.int .i64 v)) (hz : w.frozen? ⟨b, n, none⟩ = false) :
    Calls Tryd.prog 75 #[.int .i64 i, .bool up, .bool down, .pointer (some ⟨b, 0, none⟩)] w fun e w' => e = .returned (.tuple #[]) ∧ w' = w.setCell ⟨b, n, none⟩ (.int .i64 (turnS v up down)) := by
  have hs : turnS v up down = v → w = w.setCell ⟨b, n, none⟩ (.int .i64 (turnS v up down)) := fun h => by rw [h]; exact (setCell_self hc).symm
  have HS := Aside.mk hs
  clear hs
  rcases hi with ⟨rfl, rfl⟩ | ⟨rfl, rfl⟩ <;> cases up <;> cases down
  all_goals
    go_enter Tryd.func75, Tryd.ntmps75
    go_wp2
    all_goals go_end0
    all_goals first | exact ⟨rfl, HS.out (by unfold turnS; simp; try omega)⟩ | exact ⟨rfl, by unfold turnS; simp [*]⟩
end Go.Proofs.YthldpihpjekleaaDoor
