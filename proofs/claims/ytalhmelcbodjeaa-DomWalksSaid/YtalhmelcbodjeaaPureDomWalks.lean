/- DomWalks: whether one comes from any place to any other one by any list; plain. No condition. -/
import Derived.Test.YtalhmelcbodjeaaQDomWalksx
namespace Go.Proofs.Ytalhmelcbodjeaa.Pure
open Go.Proofs.Ytalhmelcbodjeaa Go.Proofs.Ytalhmelcbodjeaa.QDomWalks Go.Proofs.Ytalhmelcbodjeaa.DomA Go.RowKit Go.Proofs.YtalhmelcbodjeaaW.PrintWords Go.Proofs.YtalhmelcbodjeaaW.PrintLast Go.Proofs.YtalhmelcbodjeaaW.PrintMore
set_option linter.unusedSimpArgs false
set_option linter.unusedVariables false
theorem wrap64_of {x : Int} (h0 : -9223372036854775808 ≤ x) (h1 : x ≤ 9223372036854775807) : wrap64 x = x := by
  unfold wrap64
  omega
theorem awake_ev : Ev (fun k => ladderbacklaw31_awake.f k) true := by
  have h0 : dom_Idom.f 9 [[1, 2], [3], [3], []] = some [-1, 0, 0, 0] := by decide +kernel
  obtain ⟨K, h⟩ := Ev.of (g := fun k => dom_Idom.f k [[1, 2], [3], [3], []]) (fun k => dom_Idom.mono _ k) h0
  simp only at h
  refine ⟨K, fun k hk => ?_⟩
  simp only [ladderbacklaw31_awake.f]
  rw [h k hk]
  rfl
/-- Whether one comes to a from x in so many steps. -/
def walk (l : List Int) (a : Int) : Nat → Int → Bool
  | 0, _ => false
  | r + 1, x => if x = a then true else if x < 0 then false else if x ≥ (l.length : Int) then false else walk l a r (rd l x)
theorem dom_l0 (l : List Int) (a : Int) (hl : l.length ≤ 9223372036854775) : ∀ (r : Nat) (x : Int) (i : Nat), i + r = l.length + 1 → Ev (fun k => dom_Dominates.l0 k l a x ((l.length : Int) + 1) (i : Int)) (walk l a r x) := by
  intro r
  induction r with
  | zero =>
    intro x i hi
    refine ⟨1, fun k hk => ?_⟩
    obtain ⟨k, rfl⟩ : ∃ m, k = m + 1 := ⟨k - 1, by omega⟩
    simp only [dom_Dominates.l0, walk]
    rw [if_neg (by omega)]
  | succ r ih =>
    intro x i hi
    obtain ⟨K, h⟩ := ih (rd l x) (i + 1) (by omega)
    simp only at h
    refine ⟨K + 1, fun k hk => ?_⟩
    obtain ⟨k, rfl⟩ : ∃ m, k = m + 1 := ⟨k - 1, by omega⟩
    simp only [dom_Dominates.l0, walk]
    rw [if_pos (by omega)]
    have hw : wrap64 ((i : Int) + 1) = ((i + 1 : Nat) : Int) := by rw [wrap64_of (by omega) (by omega)]; omega
    by_cases c1 : x = a
    · rw [if_pos c1, if_pos c1]
    rw [if_neg c1, if_neg c1]
    by_cases c2 : x < 0
    · rw [if_pos c2, if_pos c2]
    rw [if_neg c2, if_neg c2]
    by_cases c3 : x ≥ (l.length : Int)
    · rw [if_pos c3, if_pos c3]
    rw [if_neg c3, if_neg c3, if_pos (by omega), if_pos (by omega), hw]
    exact h k (by omega)
theorem dom_f (l : List Int) (a b : Int) (hl : l.length ≤ 9223372036854775) : Ev (fun k => dom_Dominates.f k l a b) (if b < 0 then false else if b ≥ (l.length : Int) then false else walk l a (l.length + 1) b) := by
  obtain ⟨K, h⟩ := dom_l0 l a hl (l.length + 1) b 0 (by omega)
  simp only at h
  refine ⟨K + 2, fun k hk => ?_⟩
  obtain ⟨k, rfl⟩ : ∃ m, k = m + 1 := ⟨k - 1, by omega⟩
  simp only [dom_Dominates.f]
  by_cases c2 : b < 0
  · rw [if_pos c2, if_pos c2]
    simp [dom_Dominates.j0]
  rw [if_neg c2, if_neg c2]
  simp only [dom_Dominates.j0]
  by_cases c3 : b ≥ (l.length : Int)
  · rw [if_pos (decide_eq_true c3), if_pos c3]
  rw [if_neg (by simpa using c3), if_neg c3, wrap64_of (by omega) (by omega)]
  exact h k (by omega)
theorem law_l0 (l : List Int) (a b : Int) (d : Bool) (hl : l.length ≤ 40) (hb : 0 ≤ b ∧ b < (l.length : Int)) (hd : Ev (fun k => dom_Dominates.f k l a b) d) : ∀ (r : Nat) (x : Int) (i : Nat), i + r = l.length + 1 → walk l a r x = d → Ev (fun k => ladderbacklaw31_DomWalks.l0 k l a b false x (i : Int)) true := by
  obtain ⟨K1, h1⟩ := hd
  obtain ⟨K2, h2⟩ := awake_ev
  simp only at h1 h2
  intro r
  induction r with
  | zero =>
    intro x i hi hw
    simp only [walk] at hw
    subst hw
    refine ⟨max K1 K2 + 2, fun k hk => ?_⟩
    obtain ⟨k, rfl⟩ : ∃ m, k = m + 2 := ⟨k - 2, by omega⟩
    simp only [ladderbacklaw31_DomWalks.l0, ladderbacklaw31_DomWalks.j1]
    rw [if_neg (by omega), if_neg (by decide), h1 k (by omega)]
    simp only [Option.bind_some]
    rw [if_pos (by decide), h2 k (by omega)]
    rfl
  | succ r ih =>
    intro x i hi hw
    have key : ∀ k, max K1 K2 ≤ k → ladderbacklaw31_DomWalks.l0 (k + 2) l a b false x (i : Int) = (if x < 0 then (if (d == (x == a)) = true then some true else some false) else if x ≥ (l.length : Int) then (if (d == (x == a)) = true then some true else some false) else if x = a then (if (d == (x == a)) = true then some true else some false) else ladderbacklaw31_DomWalks.l0 k l a b (x == a) (rd l x) (wrap64 ((i : Int) + 1))) := by
      intro k hk
      simp only [ladderbacklaw31_DomWalks.l0, ladderbacklaw31_DomWalks.j1]
      rw [if_pos (by omega), if_pos hb.1, if_pos (decide_eq_true hb.2), if_neg (by decide), h1 k (by omega), h2 k (by omega)]
      simp only [Option.bind_some]
      by_cases c1 : x < 0
      · simp only [if_pos c1]
      by_cases c2 : x ≥ (l.length : Int)
      · simp only [if_neg c1, if_pos c2]
      by_cases c3 : x = a
      · simp only [if_neg c1, if_neg c2, if_pos c3]
      simp only [if_neg c1, if_neg c2, if_neg c3]
      rw [if_pos (by omega), if_pos (by omega)]
    simp only [walk] at hw
    by_cases c3 : x = a
    · rw [if_pos c3] at hw
      subst hw
      refine ⟨max K1 K2 + 2, fun k hk => ?_⟩
      obtain ⟨k, rfl⟩ : ∃ m, k = m + 2 := ⟨k - 2, by omega⟩
      show ladderbacklaw31_DomWalks.l0 (k + 2) l a b false x (i : Int) = some true
      rw [key k (by omega)]
      have : (true == (x == a)) = true := by simp [c3]
      simp only [if_pos this, ite_self, if_pos c3]
    rw [if_neg c3] at hw
    have hf : (x == a) = false := by simp [c3]
    by_cases c1 : x < 0
    · rw [if_pos c1] at hw
      subst hw
      refine ⟨max K1 K2 + 2, fun k hk => ?_⟩
      obtain ⟨k, rfl⟩ : ∃ m, k = m + 2 := ⟨k - 2, by omega⟩
      show ladderbacklaw31_DomWalks.l0 (k + 2) l a b false x (i : Int) = some true
      rw [key k (by omega), hf, if_pos c1]
      rfl
    rw [if_neg c1] at hw
    by_cases c2 : x ≥ (l.length : Int)
    · rw [if_pos c2] at hw
      subst hw
      refine ⟨max K1 K2 + 2, fun k hk => ?_⟩
      obtain ⟨k, rfl⟩ : ∃ m, k = m + 2 := ⟨k - 2, by omega⟩
      show ladderbacklaw31_DomWalks.l0 (k + 2) l a b false x (i : Int) = some true
      rw [key k (by omega), hf, if_neg c1, if_pos c2]
      rfl
    rw [if_neg c2] at hw
    obtain ⟨K3, h3⟩ := ih (rd l x) (i + 1) (by omega) hw
    simp only at h3
    refine ⟨max (max K1 K2) K3 + 2, fun k hk => ?_⟩
    obtain ⟨k, rfl⟩ : ∃ m, k = m + 2 := ⟨k - 2, by omega⟩
    have hw : wrap64 ((i : Int) + 1) = ((i + 1 : Nat) : Int) := by rw [wrap64_of (by omega) (by omega)]; omega
    show ladderbacklaw31_DomWalks.l0 (k + 2) l a b false x (i : Int) = some true
    rw [key k (by omega), hf, if_neg c1, if_neg c2, if_neg c3, hw]
    exact h3 k (by omega)
theorem DomWalks : ladderbacklaw31_DomWalks.Pure := by
  intro l hl a ha b hb
  apply Ev.rounds
  obtain ⟨K2, h2⟩ := awake_ev
  simp only at h2
  by_cases c : (l.length : Int) > 40
  · refine ⟨K2, fun k hk => ?_⟩
    simp only [ladderbacklaw31_DomWalks.f]
    rw [if_pos c, h2 k hk]
    rfl
  have hl2 : l.length ≤ 40 := by omega
  have hd := dom_f l a b (by omega)
  by_cases hbb : 0 ≤ b ∧ b < (l.length : Int)
  · rw [if_neg (by omega), if_neg (by omega)] at hd
    obtain ⟨K, h⟩ := law_l0 l a b _ hl2 hbb hd (l.length + 1) b 0 (by omega) rfl
    simp only at h
    refine ⟨K, fun k hk => ?_⟩
    simp only [ladderbacklaw31_DomWalks.f]
    rw [if_neg c]
    exact h k hk
  · have hd2 : (if b < 0 then false else if b ≥ (l.length : Int) then false else walk l a (l.length + 1) b) = false := by
      by_cases c1 : b < 0
      · rw [if_pos c1]
      · rw [if_neg c1, if_pos (by omega)]
    rw [hd2] at hd
    obtain ⟨K1, h1⟩ := hd
    simp only at h1
    refine ⟨max K1 K2 + 2, fun k hk => ?_⟩
    obtain ⟨k, rfl⟩ : ∃ m, k = m + 2 := ⟨k - 2, by omega⟩
    simp only [ladderbacklaw31_DomWalks.f]
    rw [if_neg c]
    simp only [ladderbacklaw31_DomWalks.l0, ladderbacklaw31_DomWalks.j1]
    rw [if_pos (by omega)]
    have e2 : (if (false == false) = true then (ladderbacklaw31_awake.f k).bind fun t => some t else some false) = some true := by
      rw [if_pos (by decide), h2 k (by omega)]; rfl
    by_cases c1 : b ≥ 0
    · rw [if_pos c1, if_neg (by rw [decide_eq_false (by omega)]; decide), h1 k (by omega)]
      exact e2
    · rw [if_neg c1, if_neg (by decide), h1 k (by omega)]
      exact e2
end Go.Proofs.Ytalhmelcbodjeaa.Pure
