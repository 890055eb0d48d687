/- ref31.Few, ref15.Ints; plain. No condition. -/
import Derived.Test.YtalhmelcbodjeaaPdoDomNearest
namespace Go.Proofs.Ytalhmelcbodjeaa.PdfDomNearest
open Go.Proofs.Ytalhmelcbodjeaa Go.Proofs.Ytalhmelcbodjeaa.QDomNearest Go.Proofs.Ytalhmelcbodjeaa.PdoDomNearest Go.Proofs.Ytalhmelcbodjeaa.DomA Go.Proofs.Ytalhmelcbodjeaa.DomF Go.RowKit Go.Proofs.YtalhmelcbodjeaaW.PrintWords Go.Proofs.YtalhmelcbodjeaaW.PrintLast Go.Proofs.YtalhmelcbodjeaaW.PrintMore
set_option linter.unusedSimpArgs false
set_option linter.unusedVariables false
theorem few_ev (next : List (List Int)) (most : Nat) (hm : most ≤ 1000) : ∃ b : Bool, Ev (fun k => ladderbackref31_Few.f k next (most : Int)) b ∧ (b = true → next.length ≤ most ∧ ∀ i, (next.getD i []).length ≤ 40) := by
  by_cases c : next.length > most
  · refine ⟨false, ⟨0, fun k _ => ?_⟩, by simp⟩
    simp only [ladderbackref31_Few.f]
    rw [if_pos (by omega)]
  · have key : ∀ r i : Nat, i + r = next.length → ∃ b : Bool, Ev (fun k => ladderbackref31_Few.l0 k next (i : Int)) b ∧ (b = true → ∀ j, i ≤ j → (next.getD j []).length ≤ 40) := by
      intro r
      induction r with
      | zero =>
        intro i hi
        refine ⟨true, ⟨1, fun k hk => ?_⟩, fun _ j hj => ?_⟩
        · obtain ⟨k, rfl⟩ : ∃ m, k = m + 1 := ⟨k - 1, by omega⟩
          simp only [ladderbackref31_Few.l0]
          rw [if_neg (by omega)]
        · have : ¬ j < next.length := by omega
          simp [List.getD_eq_getElem?_getD, this]
      | succ r ih =>
        intro i hi
        by_cases c2 : ((rd_L1 next (i : Int)).length : Int) > 40
        · refine ⟨false, ⟨1, fun k hk => ?_⟩, by simp⟩
          obtain ⟨k, rfl⟩ : ∃ m, k = m + 1 := ⟨k - 1, by omega⟩
          simp only [ladderbackref31_Few.l0]
          rw [if_pos (by omega), if_pos (by omega), if_pos c2]
        · obtain ⟨b, ⟨K, g⟩, hb⟩ := ih (i + 1) (by omega)
          simp only at g
          refine ⟨b, ⟨K + 1, fun k hk => ?_⟩, fun h j hj => ?_⟩
          · obtain ⟨k, rfl⟩ : ∃ m, k = m + 1 := ⟨k - 1, by omega⟩
            simp only [ladderbackref31_Few.l0]
            rw [if_pos (by omega), if_pos (by omega), if_neg c2, wnext i (by omega)]
            exact g k (by omega)
          · by_cases e : j = i
            · subst e
              simp only [rd_L1, Int.toNat_natCast] at c2
              omega
            · exact hb h j (by omega)
    obtain ⟨b, ⟨K, g⟩, hb⟩ := key next.length 0 (by omega)
    simp only at g
    refine ⟨b, ⟨K, fun k hk => ?_⟩, fun h => ⟨by omega, fun i => hb h i (Nat.zero_le _)⟩⟩
    simp only [ladderbackref31_Few.f]
    rw [if_neg (by omega)]
    exact g k hk
theorem ints_ev (a b : List Int) (ha : a.length < 4611686018427387904) : Ev (fun k => ladderbackref15_Ints.f k a b) (decide (a = b)) := by
  by_cases c : a.length = b.length
  · have key : ∀ r i : Nat, i + r = a.length → Ev (fun k => ladderbackref15_Ints.l0 k a b (i : Int)) (decide (a.drop i = b.drop i)) := by
      intro r
      induction r with
      | zero =>
        intro i hi
        refine ⟨1, fun k hk => ?_⟩
        obtain ⟨k, rfl⟩ : ∃ m, k = m + 1 := ⟨k - 1, by omega⟩
        simp only [ladderbackref15_Ints.l0]
        rw [if_neg (by omega), List.drop_eq_nil_of_le (by omega), List.drop_eq_nil_of_le (by omega)]
        rfl
      | succ r ih =>
        intro i hi
        obtain ⟨K, g⟩ := ih (i + 1) (by omega)
        simp only at g
        refine ⟨K + 1, fun k hk => ?_⟩
        obtain ⟨k, rfl⟩ : ∃ m, k = m + 1 := ⟨k - 1, by omega⟩
        simp only [ladderbackref15_Ints.l0]
        rw [if_pos (by omega), if_pos (by omega), if_pos (by omega), drop_rd a i (by omega), drop_rd b i (by omega)]
        by_cases e : rd a (i : Int) = rd b (i : Int)
        · rw [if_pos e, wnext i (by omega), e]
          have h2 := g k (by omega)
          rw [h2]
          simp
        · rw [if_neg e]
          simp [e]
    obtain ⟨K, g⟩ := key a.length 0 (by omega)
    simp only [List.drop_zero] at g
    refine ⟨K, fun k hk => ?_⟩
    simp only [ladderbackref15_Ints.f]
    rw [if_pos (by omega)]
    exact g k hk
  · refine ⟨0, fun k _ => ?_⟩
    simp only [ladderbackref15_Ints.f]
    rw [if_neg (by omega), decide_eq_false (fun h => c (by rw [h]))]
end Go.Proofs.Ytalhmelcbodjeaa.PdfDomNearest
