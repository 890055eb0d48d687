/- '==' of two instances' arrays, as one truth. No condition. -/
import Derived.Test.YthldpihpjekleaaDoorBase
namespace Go.Proofs.YthldpihpjekleaaDoor
open Go.RowKit
set_option linter.unusedSimpArgs false
theorem eq_array_list {P : Program} {t e : TypeId} {len d : Nat} {vs us : Array Value} (b : Nat → Bool) (hu : P.underlying t = some (.array len e)) (hs : ∀ W, (sizeOf e).run P W = .ok 1 W)
    (he : ∀ i, i < len → ∃ v u, (∀ W, (part e vs i).run P W = .ok v W) ∧ (∀ W, (part e us i).run P W = .ok u W) ∧ ∀ W, (Op.equalIn d e v u).run P W = .ok (b i) W) (W : World) : (Op.equalIn (d + 1) t (.agg vs) (.agg us)).run P W = .ok ((List.range len).all b) W := by
  rw [Op.equalIn]
  simp only [Sem.run_bind, run_underlying hu, Result.andThen_ok, hs, Std.Legacy.Range.forIn_eq_forIn_range', Std.Legacy.Range.size, Nat.mul_one]
  have hr : List.range' 0 ((len - 0 + 1 - 1) / 1) 1 = List.range len := by rw [List.range_eq_range']; simp
  rw [hr]
  have hl : ∀ i ∈ List.range len, i < len := by intro i hi; simpa using hi
  generalize List.range len = l at hl
  induction l with
  | nil => simp
  | cons i l ih =>
    obtain ⟨v, u, h1, h2, h3⟩ := he i (hl i (by simp))
    simp only [List.forIn_cons, Sem.run_bind, h1, h2, h3, Result.andThen_ok, List.all_cons]
    cases hb : b i
    · simp
    · simp only [Bool.not_true, Bool.false_eq_true, if_false, Sem.run_pure, Bool.true_and]
      exact ih (fun j hj => hl j (by simp [hj]))
set_option maxRecDepth 100000 in
theorem eq10g (x0 x1 x2 x3 x4 x5 x6 x7 x8 x9 y0 y1 y2 y3 y4 y5 y6 y7 y8 y9 : Int) (W : World) : (Op.equalIn 9999 22 (.agg #[.int .i64 x0, .int .i64 x1, .int .i64 x2, .int .i64 x3, .int .i64 x4, .int .i64 x5, .int .i64 x6, .int .i64 x7, .int .i64 x8, .int .i64 x9]) (.agg #[.int .i64 y0, .int .i64 y1, .int .i64 y2, .int .i64 y3, .int .i64 y4, .int .i64 y5, .int .i64 y6, .int .i64 y7, .int .i64 y8, .int .i64 y9])).run Tryd.prog W = .ok (x0 == y0 && (x1 == y1 && (x2 == y2 && (x3 == y3 && (x4 == y4 && (x5 == y5 && (x6 == y6 && (x7 == y7 && (x8 == y8 && x9 == y9))))))))) W := by
  have h := eq_array_list (P := Tryd.prog) (t := 22) (d := 9998) (vs := #[.int .i64 x0, .int .i64 x1, .int .i64 x2, .int .i64 x3, .int .i64 x4, .int .i64 x5, .int .i64 x6, .int .i64 x7, .int .i64 x8, .int .i64 x9]) (us := #[.int .i64 y0, .int .i64 y1, .int .i64 y2, .int .i64 y3, .int .i64 y4, .int .i64 y5, .int .i64 y6, .int .i64 y7, .int .i64 y8, .int .i64 y9]) (fun i => [x0, x1, x2, x3, x4, x5, x6, x7, x8, x9].getD i 0 == [y0, y1, y2, y3, y4, y5, y6, y7, y8, y9].getD i 0) Tryd.underlying22 (fun _ => by kernel_rfl) (fun i hi => ?_) W
  · rw [h]
    simp [List.range, List.range.loop]
  · have hq : ∀ (x y : Int) (W : World), (Op.equalIn 9998 3 (.int .i64 x) (.int .i64 y)).run Tryd.prog W = .ok (x == y) W := fun x y W => by
      rw [show (9998 : Nat) = 9997 + 1 from rfl, Op.equalIn]
      simp [run_underlying Tryd.underlying3]
    have : i = 0 ∨ i = 1 ∨ i = 2 ∨ i = 3 ∨ i = 4 ∨ i = 5 ∨ i = 6 ∨ i = 7 ∨ i = 8 ∨ i = 9 := by omega
    rcases this with rfl | rfl | rfl | rfl | rfl | rfl | rfl | rfl | rfl | rfl <;> exact ⟨_, _, fun W => rfl, fun W => rfl, fun W => hq _ _ W⟩
end Go.Proofs.YthldpihpjekleaaDoor
