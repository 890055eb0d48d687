/- CountHolds: a reset, and a load, go ahead of counting, and behind them what is told is told of the count; plain. No condition. -/
import Derived.Test.YthldpihpjekleaaQCountHoldsx
namespace Go.Proofs.Ythldpihpjekleaa.Pure
open Go.Proofs.Ythldpihpjekleaa Go.Proofs.Ythldpihpjekleaa.QCountHolds Go.RowKit Go.Proofs.YthldpihpjekleaaW.PrintWords Go.Proofs.YthldpihpjekleaaW.PrintLast Go.Proofs.YthldpihpjekleaaW.PrintMore
set_option linter.unusedSimpArgs false
set_option linter.unusedVariables false
theorem awakeT : ladderbacklaw09_awake.f = some true := by decide +kernel
theorem CountHolds : ladderbacklaw09_CountHolds.Pure := by
  intro y0 hy
  obtain ⟨⟨x0, x1, x2, x3, x4, x5, x6, x7, x8, x9⟩⟩ := y0
  unfold ladderbacklaw09_CountHolds.f
  by_cases h : x2 ≤ 0
  · simp [count_Step.f, countS, ctuS, ctuC, ctdS, ctdC, ctudS, ctudC, In.tup, bi, awakeT, h]
  · simp [count_Step.f, countS, ctuS, ctuC, ctdS, ctdC, ctudS, ctudC, In.tup, bi, awakeT, h]
end Go.Proofs.Ythldpihpjekleaa.Pure
