/- math/bits.TrailingZeros64 in the printed texts' form. The table's cells are a premise that the row's own list gives. -/
import Derived.Test.YtfiffhcpgojkhaaDoorTab
import Derived.Test.YtfiffhcpgojkhaaDoorWWords
import Derived.Shelf.Spec.TrailingZeros
namespace Go.Proofs.YtfiffhcpgojkhaaDoor
open Go.RowKit Go.Proofs.YtfiffhcpgojkhaaDoorW.PrintWords Go.Proofs.YtfiffhcpgojkhaaDoorW.PrintLast Go.Proofs.YtfiffhcpgojkhaaDoorW.PrintMore
set_option linter.unusedVariables false
/-- What the law's table holds. -/
def dbCells : List Value := Lib.deBruijn64tab.map fun (k : Nat) => Value.int .u8 k
def Laid (w : World) : Prop := Tab 0 dbCells w
theorem Laid.below {w w' : World} (h : Laid w) (hb : Below w.heap.size w w') : Laid w' := Tab.below h hb (Nat.le_refl _)
theorem Laid.drewN {w : World} {n : Nat} (h : Laid w) : Laid (w.drewN n) := h
theorem Laid.drew {w : World} (h : Laid w) : Laid w.drew := h
theorem Laid.alloc {w : World} {o : Obj} (h : Laid w) : Laid (w.alloc o) := Laid.below h ((Below.refl w.heap.size w).alloc (Nat.le_refl _) o)
theorem tz_core (x k idx : Nat) (w : World) (hx0 : ((x : Int) == 0) = false)
    (key : IntKind.u64.wrap (bits BinOp.and IntKind.u64 (x : Int) (IntKind.u64.wrap (-(x : Int))) * 285870213051353865) / 288230376151711744 = (idx : Int))
    (hi : idx < 64) (hk : k < 64) (hcell : w.cell? ⟨0, idx, none⟩ = some (.int .u8 k)) :
    Calls Tryd.prog 59 #[.int .u64 x] w fun e w' => e = .returned (.int .i64 k) ∧ w' = w := by
  go_enter Tryd.func59, Tryd.ntmps59
  go_wp2_with (simp only [key])
  go_ret
  exact ⟨rfl, rfl⟩
theorem db_cell {w : World} (hL : Laid w) (idx : Nat) (hi : idx < Lib.deBruijn64tab.length) : w.cell? ⟨0, idx, none⟩ = some (.int .u8 (Lib.deBruijn64tab.getD idx 0 : Nat)) :=
  hL.2 idx _ (by rw [dbCells, List.getElem?_map, List.getElem?_eq_getElem hi, List.getD, List.getElem?_eq_getElem hi]; rfl)
theorem tz_nat (x : Nat) (hx : x < 18446744073709551616) (hx0 : x ≠ 0) (w : World) (hL : Laid w) : Calls Tryd.prog 59 #[.int .u64 x] w fun e w' => e = .returned (.int .i64 (Lib.ctz 64 x : Nat)) ∧ w' = w := by
  obtain ⟨hlow, hk⟩ := Lib.lowest_bit 64 x hx0 hx
  obtain ⟨hi, htab⟩ := Lib.deBruijn64_at _ hk
  have key := tz64_key x _ hx hx0 hlow
  revert hi htab key
  generalize 2 ^ Lib.ctz 64 x * 285870213051353865 % 18446744073709551616 / 288230376151711744 = idx
  intro hi htab key
  have hcell := db_cell hL idx hi
  rw [htab] at hcell
  exact tz_core x _ idx w (by rw [beq_eq_false_iff_ne]; intro h; exact hx0 (by exact_mod_cast h)) key hi hk hcell
def bits_TrailingZeros64.f (a0 : Int) : Option Int := if 0 < a0 ∧ a0 < 18446744073709551616 then some (Lib.ctz 64 a0.toNat : Nat) else none
theorem bits_TrailingZeros64.calls (a0 : Int) (r : Int) (w : World) (h : bits_TrailingZeros64.f a0 = some r) (hL_ : Laid w := by repeat (first | exact hL_ | exact Laid.below hL_ HB.out | apply Laid.drewN | apply Laid.drew | apply Laid.alloc | (refine Laid.below hL_ ?_; repeat (first | (with_reducible first | exact HB.out | apply below_alloc | apply pw_below_drewN | apply below_drew1 | refine below_set ?_ (Aside0.out (by assumption))) | exact HB.out)))) :
    Calls Tryd.prog 59 #[.int .u64 a0] w fun e w' => e = .returned (.int .i64 r) ∧ Drawn0 w w' := by
  unfold bits_TrailingZeros64.f at h
  split at h
  rotate_left
  · cases h
  rename_i hw
  obtain rfl := (Option.some.inj h).symm
  obtain ⟨x, rfl⟩ : ∃ x : Nat, a0 = (x : Int) := ⟨a0.toNat, by omega⟩
  rw [Int.toNat_natCast]
  refine (tz_nat x (by omega) (by omega) w hL_).mono ?_
  rintro e w' ⟨rfl, rfl⟩
  exact ⟨rfl, Drawn0.refl _⟩
end Go.Proofs.YtfiffhcpgojkhaaDoor
