/- NumValues: num.Literal and num.Value tell what the reference tells, of any type, int and text of at most 100 bytes. No condition. -/
import Derived.Test.YticmkjkngngdhaaDoorPRefVNumValues
namespace Go.Proofs.YticmkjkngngdhaaDoor.Pure
open Go.Proofs.YticmkjkngngdhaaDoor Go.Proofs.YticmkjkngngdhaaDoor.QNumValues Go.Proofs.YticmkjkngngdhaaDoor.PNumValues Go.RowKit Go.Proofs.YticmkjkngngdhaaDoorW.PrintWords Go.Proofs.YticmkjkngngdhaaDoorW.PrintLast
theorem NumValues : ladderbacklaw04_NumValues.Pure := by
  intro t v s hw hv hs
  refine ⟨3500, ?_⟩
  unfold ladderbacklaw04_NumValues.f
  rw [awake_num 3500 (by omega)]
  simp only [Option.bind_some]
  by_cases h : (s.size : Int) > 100
  · rw [if_pos h]
  · rw [if_neg h]
    obtain ⟨r, h1, h2⟩ := value_same s (by omega) 3500 (by omega)
    rw [h1, h2, nliteral t v hv 3500 (by omega), rliteral t v hv 3500 (by omega)]
    simp
end Go.Proofs.YticmkjkngngdhaaDoor.Pure
