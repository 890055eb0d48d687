/- dom.Dominates: a walk along a list; plain. No condition. -/
import Derived.Test.YtalhmelcbodjeaaQDomSetsx
import Derived.Test.YtalhmelcbodjeaaPdB
namespace Go.Proofs.Ytalhmelcbodjeaa.PdwDomSets
open Go.Proofs.Ytalhmelcbodjeaa Go.Proofs.Ytalhmelcbodjeaa.QDomSets Go.Proofs.Ytalhmelcbodjeaa.PdB Go.Proofs.Ytalhmelcbodjeaa.DomA Go.RowKit Go.Proofs.YtalhmelcbodjeaaW.PrintWords Go.Proofs.YtalhmelcbodjeaaW.PrintLast Go.Proofs.YtalhmelcbodjeaaW.PrintMore
set_option linter.unusedSimpArgs false
set_option linter.unusedVariables false
/-- Whether one comes to a from x in so many steps. -/
def walk (l : List Int) (a : Int) : Nat → Int → Bool
  | 0, _ => false
  | r + 1, x => if x = a then true else if x < 0 then false else if x ≥ (l.length : Int) then false else walk l a r (rd l x)
theorem dom_l0 (l : List Int) (a : Int) (hl : l.length ≤ 9223372036854775) : ∀ (r : Nat) (x : Int) (i : Nat), i + r = l.length + 1 → Ev (fun k => dom_Dominates.l0 k l a x ((l.length : Int) + 1) (i : Int)) (walk l a r x) := by
  intro r
  induction r with
  | zero =>
    intro x i hi
    refine ⟨1, fun k hk => ?_⟩
    obtain ⟨k, rfl⟩ : ∃ m, k = m + 1 := ⟨k - 1, by omega⟩
    simp only [dom_Dominates.l0, walk]
    rw [if_neg (by omega)]
  | succ r ih =>
    intro x i hi
    obtain ⟨K, h⟩ := ih (rd l x) (i + 1) (by omega)
    simp only at h
    refine ⟨K + 1, fun k hk => ?_⟩
    obtain ⟨k, rfl⟩ : ∃ m, k = m + 1 := ⟨k - 1, by omega⟩
    simp only [dom_Dominates.l0, walk]
    rw [if_pos (by omega)]
    have hw : wrap64 ((i : Int) + 1) = ((i + 1 : Nat) : Int) := by rw [w64_of (by omega) (by omega)]; omega
    by_cases c1 : x = a
    · rw [if_pos c1, if_pos c1]
    rw [if_neg c1, if_neg c1]
    by_cases c2 : x < 0
    · rw [if_pos c2, if_pos c2]
    rw [if_neg c2, if_neg c2]
    by_cases c3 : x ≥ (l.length : Int)
    · rw [if_pos c3, if_pos c3]
    rw [if_neg c3, if_neg c3, if_pos (by omega), if_pos (by omega), hw]
    exact h k (by omega)
theorem dom_f (l : List Int) (a b : Int) (hl : l.length ≤ 9223372036854775) : Ev (fun k => dom_Dominates.f k l a b) (if b < 0 then false else if b ≥ (l.length : Int) then false else walk l a (l.length + 1) b) := by
  obtain ⟨K, h⟩ := dom_l0 l a hl (l.length + 1) b 0 (by omega)
  simp only at h
  refine ⟨K + 2, fun k hk => ?_⟩
  obtain ⟨k, rfl⟩ : ∃ m, k = m + 1 := ⟨k - 1, by omega⟩
  simp only [dom_Dominates.f]
  by_cases c2 : b < 0
  · rw [if_pos c2, if_pos c2]
    simp [dom_Dominates.j0]
  rw [if_neg c2, if_neg c2]
  simp only [dom_Dominates.j0]
  by_cases c3 : b ≥ (l.length : Int)
  · rw [if_pos (decide_eq_true c3), if_pos c3]
  rw [if_neg (by simpa using c3), if_neg c3, w64_of (by omega) (by omega)]
  exact h k (by omega)
end Go.Proofs.Ytalhmelcbodjeaa.PdwDomSets
