/- timer's inner functions: held, tell, delay, hold, pulse. No condition. -/
import Derived.Test.YthldpihpjekleaaDoorBase
import Derived.RegionTactic
import Derived.ChangeAlike
import Derived.Deep.Draws
namespace Go.Proofs.YthldpihpjekleaaDoor
open Go.RowKit
set_option linter.unusedSimpArgs false
def imax (x y : Int) : Int := if x < y then y else x
def imin (x y : Int) : Int := if y < x then y else x
theorem mx2 (k k' : IntKind) (x y : Int) : Builtin.max2 (.int k x) (.int k' y) = pure (.int k (imax x y)) := by simp only [Builtin.max2, gt_iff_lt, imax]
theorem mn2 (k k' : IntKind) (x y : Int) : Builtin.min2 (.int k x) (.int k' y) = pure (.int k (imin x y)) := by simp only [Builtin.min2, imin]
theorem mx_two (ats : Array TypeId) (ty : TypeId) (a b : Value) : Builtin.max_ ats ty #[a, b] = (Builtin.max2 a b >>= fun s => pure s) := by simp only [Builtin.max_, List.foldlM_cons, List.foldlM_nil]
theorem mn_two (ats : Array TypeId) (ty : TypeId) (a b : Value) : Builtin.min_ ats ty #[a, b] = (Builtin.min2 a b >>= fun s => pure s) := by simp only [Builtin.min_, List.foldlM_cons, List.foldlM_nil]
attribute [local go_sem] mx2 mn2 mx_two mn_two
/-- A time that may be. -/
def hd (t : Int) : Int := imax 0 (imin t 1099511627776)
theorem hd_lo (t : Int) : 0 ≤ hd t := by unfold hd imax imin; split <;> split <;> omega
theorem hd_hi (t : Int) : hd t ≤ 1099511627776 := by unfold hd imax imin; split <;> split <;> omega
/-- How long it is since a start. -/
def longS (start now : Int) : Int := imax 0 (hd now - hd start)
def ptS (pt : Int) : Int := imax 0 pt
def etS (pt start now : Int) : Int := imin (longS start now) (ptS pt)
def due (pt start now : Int) : Bool := decide (ptS pt ≤ longS start now)
theorem held_any (t : Int) (w : World) : Calls Tryd.prog 113 #[.int .i64 t] w fun e w' => e = .returned (.int .i64 (hd t)) ∧ w' = w := by
  go_enter Tryd.func113, Tryd.ntmps113
  go_wp2
  go_ret
  exact ⟨rfl, rfl⟩
set_option maxHeartbeats 1000000 in
theorem tell_any (b : Nat) (a1 a3 a5 now : Int) (w : World) (h1 : w.cell? ⟨b, 1, none⟩ = some (.int .i64 a1)) (h3 : w.cell? ⟨b, 3, none⟩ = some (.int .i64 a3)) (h5 : w.cell? ⟨b, 5, none⟩ = some (.int .i64 a5)) (hz : w.frozen? ⟨b, 3, none⟩ = false) :
    Calls Tryd.prog 104 #[.pointer (some ⟨b, 0, none⟩), .int .i64 now] w fun e w' => e = .returned (.bool (due a1 a5 now)) ∧ ∃ n, w' = (w.setCell ⟨b, 3, none⟩ (.int .i64 (etS a1 a5 now))).drewN n := by
  have b1 := hd_lo now
  have b2 := hd_hi now
  have b3 := hd_lo a5
  have b4 := hd_hi a5
  go_enter Tryd.func104, Tryd.ntmps104
  go_wp2_with fail
  go_quiet ((go_at_call 113; exact Calls.quiet_of_same (held_any _ _)))
  go_wp2
  go_ret
  exact ⟨rfl, nq, rfl⟩
end Go.Proofs.YthldpihpjekleaaDoor
