/- dom.Idom's rounds: they end, and each place's nearest dominator stands there; plain. No condition but that the graph is small. -/
import Derived.Test.YtfiffhcpgojkhaaDomP
namespace Go.Proofs.Ytfiffhcpgojkhaa.DomP
open Go.Proofs.Ytfiffhcpgojkhaa Go.Proofs.Ytfiffhcpgojkhaa.DomA Go.Proofs.Ytfiffhcpgojkhaa.DomF Go.Proofs.Ytfiffhcpgojkhaa.DomT Go.RowKit Go.Proofs.YtfiffhcpgojkhaaW.PrintWords
set_option linter.unusedSimpArgs false
set_option linter.unusedVariables false
theorem order_some (next : List (List Int)) (sm : Small next) (hn : 0 < next.length) : ∃ T, Ord next T ∧ dom_Order.f next = some ((0 :: T).map fun v : Nat => (v : Int)) := by
  obtain ⟨T, e, h1, h2, h3⟩ := orderF_spec next hn
  have o : Ord next T := ⟨h1, h2, h3⟩
  refine ⟨T, o, ?_⟩
  have hTl : (0 :: T).length ≤ next.length := nodup_len _ _ o.nd fun v hv => Rch.lt ((o.mem v).mp hv)
  have hl := sm.1
  unfold dom_Order.f
  have hall : (next.all fun l => decide (l.length < 4611686018427387904)) = true := by
    apply List.all_eq_true.mpr
    intro l hl
    obtain ⟨i, hi, rfl⟩ := List.getElem_of_mem hl
    have := sm.2 i
    simp only [List.getD_eq_getElem?_getD, List.getElem?_eq_getElem hi, Option.getD_some] at this
    exact decide_eq_true (by omega)
  rw [if_pos ⟨by omega, hall⟩, e]
  simp only [Option.bind_some]
  rw [if_pos (by simp only [List.length_map]; omega)]
end Go.Proofs.Ytfiffhcpgojkhaa.DomP
