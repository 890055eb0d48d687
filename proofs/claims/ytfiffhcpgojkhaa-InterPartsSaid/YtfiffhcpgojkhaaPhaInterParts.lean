/- ref30.Has: membership; plain. No condition but that the row is short. -/
import Derived.Test.YtfiffhcpgojkhaaQInterPartsx
import Derived.Test.YtfiffhcpgojkhaaPdC
namespace Go.Proofs.Ytfiffhcpgojkhaa.PhaInterParts
open Go.Proofs.Ytfiffhcpgojkhaa Go.Proofs.Ytfiffhcpgojkhaa.QInterParts Go.Proofs.Ytfiffhcpgojkhaa.PdC Go.RowKit Go.Proofs.YtfiffhcpgojkhaaW.PrintWords Go.Proofs.YtfiffhcpgojkhaaW.PrintLast Go.Proofs.YtfiffhcpgojkhaaW.PrintMore
set_option linter.unusedSimpArgs false
set_option linter.unusedVariables false
/-- Membership. -/
theorem has_ev (l : List Int) (x : Int) (hl : l.length < 4611686018427387904) : Ev (fun k => ladderbackref30_Has.f k l x) (decide (x ∈ l)) := by
  have key : ∀ r i : Nat, i + r = l.length → Ev (fun k => ladderbackref30_Has.l0 k l x (i : Int)) (decide (x ∈ l.drop i)) := by
    intro r
    induction r with
    | zero =>
      intro i hi
      refine ⟨1, fun k hk => ?_⟩
      obtain ⟨k, rfl⟩ : ∃ m, k = m + 1 := ⟨k - 1, by omega⟩
      simp only [ladderbackref30_Has.l0]
      rw [if_neg (by omega), List.drop_eq_nil_of_le (by omega)]
      simp
    | succ r ih =>
      intro i hi
      obtain ⟨K, g⟩ := ih (i + 1) (by omega)
      simp only at g
      refine ⟨K + 1, fun k hk => ?_⟩
      obtain ⟨k, rfl⟩ : ∃ m, k = m + 1 := ⟨k - 1, by omega⟩
      simp only [ladderbackref30_Has.l0]
      rw [if_pos (by omega), if_pos (by omega), drop_rd l i (by omega)]
      by_cases e : rd l (i : Int) = x
      · rw [if_pos e]; simp [e]
      · rw [if_neg e, wnext i (by omega)]
        have h2 := g k (by omega)
        rw [h2]
        have e2 : ¬ x = rd l (i : Int) := fun h => e h.symm
        simp [e2]
  obtain ⟨K, g⟩ := key l.length 0 (by omega)
  simp only [List.drop_zero] at g
  exact ⟨K, fun k hk => by simp only [ladderbackref30_Has.f]; exact g k hk⟩
end Go.Proofs.Ytfiffhcpgojkhaa.PhaInterParts
