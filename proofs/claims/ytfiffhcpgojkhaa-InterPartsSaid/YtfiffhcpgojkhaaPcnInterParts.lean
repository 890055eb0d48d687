/- ref15.Ints; plain. No condition. -/
import Derived.Test.YtfiffhcpgojkhaaQInterPartsx
import Derived.Test.YtfiffhcpgojkhaaPdC
namespace Go.Proofs.Ytfiffhcpgojkhaa.PcnInterParts
open Go.Proofs.Ytfiffhcpgojkhaa Go.Proofs.Ytfiffhcpgojkhaa.QInterParts Go.Proofs.Ytfiffhcpgojkhaa.PdC Go.RowKit Go.Proofs.YtfiffhcpgojkhaaW.PrintWords Go.Proofs.YtfiffhcpgojkhaaW.PrintLast Go.Proofs.YtfiffhcpgojkhaaW.PrintMore
set_option linter.unusedSimpArgs false
set_option linter.unusedVariables false
theorem ints_ev (a b : List Int) (ha : a.length < 4611686018427387904) : Ev (fun k => ladderbackref15_Ints.f k a b) (decide (a = b)) := by
  by_cases c : a.length = b.length
  · have key : ∀ r i : Nat, i + r = a.length → Ev (fun k => ladderbackref15_Ints.l0 k a b (i : Int)) (decide (a.drop i = b.drop i)) := by
      intro r
      induction r with
      | zero =>
        intro i hi
        refine ⟨1, fun k hk => ?_⟩
        obtain ⟨k, rfl⟩ : ∃ m, k = m + 1 := ⟨k - 1, by omega⟩
        simp only [ladderbackref15_Ints.l0]
        rw [if_neg (by omega), List.drop_eq_nil_of_le (by omega), List.drop_eq_nil_of_le (by omega)]
        rfl
      | succ r ih =>
        intro i hi
        obtain ⟨K, g⟩ := ih (i + 1) (by omega)
        simp only at g
        refine ⟨K + 1, fun k hk => ?_⟩
        obtain ⟨k, rfl⟩ : ∃ m, k = m + 1 := ⟨k - 1, by omega⟩
        simp only [ladderbackref15_Ints.l0]
        rw [if_pos (by omega), if_pos (by omega), if_pos (by omega), drop_rd a i (by omega), drop_rd b i (by omega)]
        by_cases e : rd a (i : Int) = rd b (i : Int)
        · rw [if_pos e, wnext i (by omega), e]
          have h2 := g k (by omega)
          rw [h2]
          simp
        · rw [if_neg e]
          simp [e]
    obtain ⟨K, g⟩ := key a.length 0 (by omega)
    simp only [List.drop_zero] at g
    refine ⟨K, fun k hk => ?_⟩
    simp only [ladderbackref15_Ints.f]
    rw [if_pos (by omega)]
    exact g k hk
  · refine ⟨0, fun k _ => ?_⟩
    simp only [ladderbackref15_Ints.f]
    rw [if_neg (by omega), decide_eq_false (fun h => c (by rw [h]))]
end Go.Proofs.Ytfiffhcpgojkhaa.PcnInterParts
