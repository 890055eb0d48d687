/- ExprTypes: the type of any expression in any unit of any program is the reference's; plain. No condition. -/
import Derived.Test.YtfioegoeeflkbaaDoorPsExprTypes
import Derived.Test.YtfioegoeeflkbaaDoorPtrExprTypes
namespace Go.Proofs.YtfioegoeeflkbaaDoor.Pure
open Go.Proofs.YtfioegoeeflkbaaDoor Go.Proofs.YtfioegoeeflkbaaDoor.QExprTypes Go.Proofs.YtfioegoeeflkbaaDoor.PtExprTypes Go.Proofs.YtfioegoeeflkbaaDoor.PsExprTypes Go.Proofs.YtfioegoeeflkbaaDoor.PtrExprTypes Go.RowKit Go.Proofs.YtfioegoeeflkbaaDoorW.PrintWords Go.Proofs.YtfioegoeeflkbaaDoorW.PrintLast Go.Proofs.YtfioegoeeflkbaaDoorW.PrintMore
set_option linter.unusedSimpArgs false
set_option linter.unusedVariables false
theorem awake_ev : Ev (fun k => ladderbacklaw26_awake.f k) true := by
  have hc : W30 ⟨1, 2, 5, 0, []⟩ := W30.of ⟨by decide, by decide, by decide, by decide, by simp, by simp⟩
  have hw : W30 ⟨7, 0, 0, 20, [⟨1, 2, 5, 0, []⟩, ⟨1, 2, 5, 0, []⟩]⟩ := W30.of ⟨by decide, by decide, by decide, by decide, by simp, by
    intro y hy
    simp only [List.mem_cons, List.not_mem_nil, or_false, or_self] at hy
    rw [hy]; exact hc⟩
  obtain ⟨K, h⟩ := type_ev [] [] [] [] _ _ (Nat.le_refl _) hw (by decide)
  simp only at h
  refine ⟨K, fun k hk => ?_⟩
  simp only [ladderbacklaw26_awake.f]
  rw [h k hk, show tyS [] [] [] ⟨7, 0, 0, 20, [⟨1, 2, 5, 0, []⟩, ⟨1, 2, 5, 0, []⟩]⟩ = 1 by decide +kernel]
  simp only [Option.bind_some, if_true]
  rw [show expr_Size.f 1 2 5 0 [] = some 1 by decide +kernel]
  rfl
theorem ExprTypes : ladderbacklaw26_ExprTypes.Pure := by
  intro y0 h0 y1 h1 y2 h2
  apply Ev.rounds
  obtain ⟨b1, ⟨K1, e1⟩, hb1⟩ := pfew_ev y0.f0 y0.f1 y0.f2 y0.f3
  simp only at e1
  obtain ⟨b2, ⟨K2, e2⟩, hb2⟩ := few_ev y2 h2 300 (by omega) (by omega)
  simp only at e2
  obtain ⟨K3, e3⟩ := awake_ev
  simp only at e3
  cases b1 with
  | false =>
    refine ⟨max K1 K3 + 1, fun k hk => ?_⟩
    simp only [ladderbacklaw26_ExprTypes.f]
    rw [e1 k (by omega)]
    obtain ⟨k, rfl⟩ : ∃ m, k = m + 1 := ⟨k - 1, by omega⟩
    simp only [Option.bind_some, Bool.false_eq_true, if_false, ladderbacklaw26_ExprTypes.j0, if_true]
    rw [e3 k (by omega)]
    rfl
  | true =>
  cases b2 with
  | false =>
    refine ⟨max (max K1 K2) K3 + 1, fun k hk => ?_⟩
    simp only [ladderbacklaw26_ExprTypes.f]
    rw [e1 k (by omega), e2 k (by omega)]
    obtain ⟨k, rfl⟩ : ∃ m, k = m + 1 := ⟨k - 1, by omega⟩
    simp only [Option.bind_some, if_true, ladderbacklaw26_ExprTypes.j0, Bool.not_false]
    rw [e3 k (by omega)]
    rfl
  | true =>
    obtain ⟨sg, sl, ⟨K4, e4⟩, _⟩ := scope_ev y0.f0 y0.f1 y0.f2 y0.f3 (hb1 rfl) y1
    simp only at e4
    obtain ⟨K5, e5⟩ := type_ev y0.f1 y0.f2 sg sl _ y2 (Nat.le_refl _) h2 (by have := hb2 rfl; omega)
    simp only at e5
    obtain ⟨K6, e6⟩ := rtype_ev y0.f1 y0.f2 sg sl _ y2 (Nat.le_refl _)
    simp only at e6
    refine ⟨max (max (max K1 K2) (max K3 K4)) (max K5 K6) + 1, fun k hk => ?_⟩
    simp only [ladderbacklaw26_ExprTypes.f]
    rw [e1 k (by omega), e2 k (by omega)]
    obtain ⟨k, rfl⟩ : ∃ m, k = m + 1 := ⟨k - 1, by omega⟩
    simp only [Option.bind_some, if_true, ladderbacklaw26_ExprTypes.j0, Bool.not_true, Bool.false_eq_true, if_false]
    rw [e4 k (by omega)]
    simp only [Option.bind_some]
    rw [e5 k (by omega), e6 k (by omega)]
    simp only [Option.bind_some, if_true]
    rw [e3 k (by omega)]
    rfl
end Go.Proofs.YtfioegoeeflkbaaDoor.Pure
