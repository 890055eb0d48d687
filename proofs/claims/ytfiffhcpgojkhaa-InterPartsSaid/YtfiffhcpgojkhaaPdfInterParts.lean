/- ref31.Few; plain. No condition. -/
import Derived.Test.YtfiffhcpgojkhaaQInterPartsx
import Derived.Test.YtfiffhcpgojkhaaPdB
namespace Go.Proofs.Ytfiffhcpgojkhaa.PdfInterParts
open Go.Proofs.Ytfiffhcpgojkhaa Go.Proofs.Ytfiffhcpgojkhaa.QInterParts Go.Proofs.Ytfiffhcpgojkhaa.PdB Go.Proofs.Ytfiffhcpgojkhaa.DomA Go.Proofs.Ytfiffhcpgojkhaa.DomF Go.RowKit Go.Proofs.YtfiffhcpgojkhaaW.PrintWords Go.Proofs.YtfiffhcpgojkhaaW.PrintLast Go.Proofs.YtfiffhcpgojkhaaW.PrintMore
set_option linter.unusedSimpArgs false
set_option linter.unusedVariables false
theorem few_ev (next : List (List Int)) (most : Nat) (hm : most ≤ 1000) : ∃ b : Bool, Ev (fun k => ladderbackref31_Few.f k next (most : Int)) b ∧ (b = true → next.length ≤ most ∧ ∀ i, (next.getD i []).length ≤ 40) := by
  by_cases c : next.length > most
  · refine ⟨false, ⟨0, fun k _ => ?_⟩, by simp⟩
    simp only [ladderbackref31_Few.f]
    rw [if_pos (by omega)]
  · have key : ∀ r i : Nat, i + r = next.length → ∃ b : Bool, Ev (fun k => ladderbackref31_Few.l0 k next (i : Int)) b ∧ (b = true → ∀ j, i ≤ j → (next.getD j []).length ≤ 40) := by
      intro r
      induction r with
      | zero =>
        intro i hi
        refine ⟨true, ⟨1, fun k hk => ?_⟩, fun _ j hj => ?_⟩
        · obtain ⟨k, rfl⟩ : ∃ m, k = m + 1 := ⟨k - 1, by omega⟩
          simp only [ladderbackref31_Few.l0]
          rw [if_neg (by omega)]
        · have : ¬ j < next.length := by omega
          simp [List.getD_eq_getElem?_getD, this]
      | succ r ih =>
        intro i hi
        by_cases c2 : ((rd_L1 next (i : Int)).length : Int) > 40
        · refine ⟨false, ⟨1, fun k hk => ?_⟩, by simp⟩
          obtain ⟨k, rfl⟩ : ∃ m, k = m + 1 := ⟨k - 1, by omega⟩
          simp only [ladderbackref31_Few.l0]
          rw [if_pos (by omega), if_pos (by omega), if_pos c2]
        · obtain ⟨b, ⟨K, g⟩, hb⟩ := ih (i + 1) (by omega)
          simp only at g
          refine ⟨b, ⟨K + 1, fun k hk => ?_⟩, fun h j hj => ?_⟩
          · obtain ⟨k, rfl⟩ : ∃ m, k = m + 1 := ⟨k - 1, by omega⟩
            simp only [ladderbackref31_Few.l0]
            rw [if_pos (by omega), if_pos (by omega), if_neg c2, wnext i (by omega)]
            exact g k (by omega)
          · by_cases e : j = i
            · subst e
              simp only [rd_L1, Int.toNat_natCast] at c2
              omega
            · exact hb h j (by omega)
    obtain ⟨b, ⟨K, g⟩, hb⟩ := key next.length 0 (by omega)
    simp only at g
    refine ⟨b, ⟨K, fun k hk => ?_⟩, fun h => ⟨by omega, fun i => hb h i (Nat.zero_le _)⟩⟩
    simp only [ladderbackref31_Few.f]
    rw [if_neg (by omega)]
    exact g k hk
end Go.Proofs.Ytfiffhcpgojkhaa.PdfInterParts
