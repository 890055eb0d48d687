/- NumReads: num.Parse and num.Print tell what the reference tells, of any text of at most 100 bytes and any int. No condition. -/
import Derived.Test.YtgmfbmfacodmpaaDoorPNumNumReads
namespace Go.Proofs.YtgmfbmfacodmpaaDoor.Pure
open Go.Proofs.YtgmfbmfacodmpaaDoor Go.Proofs.YtgmfbmfacodmpaaDoor.QNumReads Go.Proofs.YtgmfbmfacodmpaaDoor.PNumReads Go.RowKit Go.Proofs.YtgmfbmfacodmpaaDoorW.PrintWords Go.Proofs.YtgmfbmfacodmpaaDoorW.PrintLast
theorem NumReads : ladderbacklaw04_NumReads.Pure := by
  intro n s hw hs
  refine ⟨3100, ?_⟩
  unfold ladderbacklaw04_NumReads.f
  rw [awake_num 3100 (by omega)]
  simp only [Option.bind_some]
  by_cases h : (s.size : Int) > 100
  · rw [if_pos h]
  · rw [if_neg h]
    obtain ⟨r, h1, h2⟩ := parse_same s (by omega) 3100 (by omega)
    have h3 : num_Print.f n = some (printS n) := by unfold num_Print.f; rw [if_pos hw]
    rw [h1, h2, h3, rprint n hw 3100 (by omega)]
    simp
end Go.Proofs.YtgmfbmfacodmpaaDoor.Pure
