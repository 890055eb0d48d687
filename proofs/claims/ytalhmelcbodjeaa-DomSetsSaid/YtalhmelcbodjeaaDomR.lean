/- dom.Idom's answer with the order. No condition but that the graph is small. -/
import Derived.Test.YtalhmelcbodjeaaDomQ
namespace Go.Proofs.Ytalhmelcbodjeaa.DomP
open Go.Proofs.Ytalhmelcbodjeaa Go.Proofs.Ytalhmelcbodjeaa.DomA Go.Proofs.Ytalhmelcbodjeaa.DomF Go.Proofs.Ytalhmelcbodjeaa.DomT Go.RowKit Go.Proofs.YtalhmelcbodjeaaW.PrintWords
set_option linter.unusedSimpArgs false
set_option linter.unusedVariables false
/-- What dom.Idom answers. -/
theorem idom_some2 (next : List (List Int)) (sm : Small next) (hn : 0 < next.length) : ∃ T, Ord next T ∧ dom_Order.f next = some ((0 :: T).map fun v : Nat => (v : Int)) ∧ ∃ (K : Nat) (D : List Int), (∀ k, K ≤ k → dom_Idom.f k next = some D) ∧ D.length = next.length ∧
    (∀ v, v < next.length → (¬ Rch next v ∨ v = 0) → D.getD v 0 = -1) ∧ ∀ v, Rch next v → v ≠ 0 → ∃ m : Nat, D.getD v 0 = (m : Int) ∧ Rch next m ∧ m ≠ v ∧ at_ T m < at_ T v ∧ ∀ x, Dm next x m ↔ Dm next x v ∧ x ≠ v := by
  obtain ⟨T, o, e⟩ := order_some next sm hn
  have hTl : (0 :: T).length ≤ next.length := nodup_len _ _ o.nd fun v hv => Rch.lt ((o.mem v).mp hv)
  have hl := sm.1
  obtain ⟨T1, P1, e1, tb⟩ := outerP_spec o sm (0 :: T) [] (List.replicate next.length (-1)) (List.replicate next.length []) rfl (by simp) (by simp) (by simp) (fun j hj p => by simp [List.getD_eq_getElem?_getD, hj]) (fun j => by
    by_cases hj : j < next.length <;> simp [List.getD_eq_getElem?_getD, hj])
  have hK : ∀ k, T.length * (T.length + 1) + 2 * T.length + 4 ≤ k → ∃ Df, roundsF k T1 P1 (T.map fun v : Nat => (v : Int)) k ((List.replicate next.length (-1)).set 0 0) = some Df ∧ Fin o Df := fun k hk => by
    generalize hq : T.length * (T.length + 1) = q at hk
    exact rounds_all o hn tb (by omega) (by rw [hq]; omega)
  generalize hq : T.length * (T.length + 1) + 2 * T.length + 4 = K0 at hK
  obtain ⟨Df, e2, f⟩ := hK K0 (Nat.le_refl _)
  have hf : ∀ k, idomF k next ((0 :: T).map fun v : Nat => (v : Int)) = (roundsF k T1 P1 (T.map fun v : Nat => (v : Int)) k ((List.replicate next.length (-1)).set 0 0)).map fun D => D.set 0 (-1) := by
    intro k
    unfold idomF
    rw [if_neg (by simp)]
    simp only [List.length_nil] at e1
    rw [e1]
    rfl
  have h1 : dom_Idom.f K0 next = some (Df.set 0 (-1)) := by
    unfold dom_Idom.f
    rw [if_pos (by omega), e]
    simp only [Option.bind_some]
    rw [hf, e2]
    rfl
  refine ⟨T, o, e, K0, Df.set 0 (-1), fun k hk => at_rounds (fun k => dom_Idom.mono next k) hk h1, by rw [List.length_set]; exact f.1.len, fun v hv h => ?_, fun v hv h0 => ?_⟩
  · rw [getD_set_ _ _ _ _ (by rw [f.1.len]; exact hn)]
    by_cases h0 : v = 0
    · rw [if_pos h0]
    · rw [if_neg h0]
      exact f.1.un v hv (h.resolve_right h0)
  · rw [getD_set_ _ _ _ _ (by rw [f.1.len]; exact hn), if_neg h0]
    have hm := f.1.inv.ch.dp v hv
    have hlt := f.1.inv.ch.lt v hv h0
    refine ⟨dOf Df v, by have := f.1.pos v hv; unfold dOf; omega, hm, fun e => by rw [e] at hlt; omega, hlt, fun x => ?_⟩
    rw [← fin_dom o hn f x _ hm, ← fin_dom o hn f x v hv]
    constructor
    · intro h
      refine ⟨.step h, ?_⟩
      rintro rfl
      rcases h.le f.1.inv.ch hm with e | e
      · rw [← e] at hlt; omega
      · omega
    · rintro ⟨h, hne⟩
      exact h.inv.resolve_left hne
end Go.Proofs.Ytalhmelcbodjeaa.DomP
