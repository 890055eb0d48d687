/- What dominates what: an order on the ways; plain. No condition but that the graph is small. -/
import Derived.Test.YtfiffhcpgojkhaaDomQ
namespace Go.Proofs.Ytfiffhcpgojkhaa.DomS
open Go.Proofs.Ytfiffhcpgojkhaa Go.Proofs.Ytfiffhcpgojkhaa.DomA Go.Proofs.Ytfiffhcpgojkhaa.DomF Go.Proofs.Ytfiffhcpgojkhaa.DomT Go.Proofs.Ytfiffhcpgojkhaa.DomP Go.RowKit Go.Proofs.YtfiffhcpgojkhaaW.PrintWords
set_option linter.unusedSimpArgs false
set_option linter.unusedVariables false
theorem small_of {next : List (List Int)} {most : Nat} (hm : most ≤ 1000) (h : next.length ≤ most ∧ ∀ i, (next.getD i []).length ≤ 40) : Small next := ⟨by omega, fun i => by have := h.2 i; omega⟩
theorem dm_facts (next : List (List Int)) (sm : Small next) (hn : 0 < next.length) : (∀ x, Rch next x → Dm next x x) ∧ (∀ x y z, Dm next x y → Dm next y z → Dm next x z) ∧ (∀ x y z, Dm next x z → Dm next y z → Dm next x y ∨ Dm next y x) ∧ (∀ x y, Dm next x y → Dm next y x → x = y) ∧ ∀ x y, Dm next x y → Rch next x := by
  obtain ⟨T, o, e⟩ := order_some next sm hn
  have hTl : (0 :: T).length ≤ next.length := nodup_len _ _ o.nd fun v hv => Rch.lt ((o.mem v).mp hv)
  obtain ⟨T1, P1, e1, tb⟩ := outerP_spec o sm (0 :: T) [] (List.replicate next.length (-1)) (List.replicate next.length []) rfl (by simp) (by simp) (by simp) (fun j hj p => by simp [List.getD_eq_getElem?_getD, hj]) (fun j => by
    by_cases hj : j < next.length <;> simp [List.getD_eq_getElem?_getD, hj])
  obtain ⟨D, _, f⟩ := rounds_all o hn tb (K := 2 * T.length + 3) (R := T.length * (T.length + 1) + 2) (by omega) (by omega)
  have key := fin_dom o hn f
  have hpr : ∀ x y, Dm next x y → Rch next x := fun x y h => ((key x y h.1).mpr h).prd f.1.inv.ch h.1
  refine ⟨fun x hx => (key x x hx).mp (.refl _), fun x y z h1 h2 => (key x z h2.1).mp (((key x y h1.1).mpr h1).trans ((key y z h2.1).mpr h2)), fun x y z h1 h2 => ?_, fun x y h1 h2 => ?_, hpr⟩
  · rcases ((key x z h1.1).mpr h1).lin ((key y z h2.1).mpr h2) with h | h
    · exact Or.inl ((key x y (hpr y z h2)).mp h)
    · exact Or.inr ((key y x (hpr x z h1)).mp h)
  · rcases ((key x y h1.1).mpr h1).le f.1.inv.ch h1.1 with e | e
    · exact e
    · rcases ((key y x h2.1).mpr h2).le f.1.inv.ch h2.1 with e2 | e2
      · exact e2.symm
      · omega
end Go.Proofs.Ytfiffhcpgojkhaa.DomS
