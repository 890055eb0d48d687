/- ref31.Idom: each place's nearest dominator; plain. No condition but that the graph is small. -/
import Derived.Test.YtalhmelcbodjeaaPddDomNearest
namespace Go.Proofs.Ytalhmelcbodjeaa.PdiDomNearest
open Go.Proofs.Ytalhmelcbodjeaa Go.Proofs.Ytalhmelcbodjeaa.QDomNearest Go.Proofs.Ytalhmelcbodjeaa.PdoDomNearest Go.Proofs.Ytalhmelcbodjeaa.PddDomNearest Go.Proofs.Ytalhmelcbodjeaa.DomA Go.Proofs.Ytalhmelcbodjeaa.DomF Go.Proofs.Ytalhmelcbodjeaa.DomP Go.RowKit Go.Proofs.YtalhmelcbodjeaaW.PrintWords Go.Proofs.YtalhmelcbodjeaaW.PrintLast Go.Proofs.YtalhmelcbodjeaaW.PrintMore
set_option linter.unusedSimpArgs false
set_option linter.unusedVariables false
/-- The nearest dominators stand there. -/
structure Near (next : List (List Int)) (D : List Int) : Prop where
  len : D.length = next.length
  no : ∀ v, v < next.length → (¬ Rch next v ∨ v = 0) → D.getD v 0 = -1
  yes : ∀ v, Rch next v → v ≠ 0 → ∃ m : Nat, D.getD v 0 = (m : Int) ∧ Rch next m ∧ m ≠ v ∧ ∀ x, Dm next x m ↔ Dm next x v ∧ x ≠ v
/-- The best of the places below a. -/
def Bst (next : List (List Int)) (b a : Nat) (best : Int) : Prop :=
  (best = -1 ∧ ∀ x, x < a → x ≠ b → ¬ Dm next x b) ∨ ∃ m : Nat, best = (m : Int) ∧ m < next.length ∧ m ≠ b ∧ Dm next m b ∧ ∀ x, x < a → x ≠ b → Dm next x b → Dm next x m
theorem bst_end {next : List (List Int)} (sm : Small next) {D : List Int} (nr : Near next D) {b : Nat} (hb : b < next.length) {best : Int} (h : Bst next b next.length best) : best = D.getD b 0 := by
  have hn : 0 < next.length := by omega
  obtain ⟨refl, trans, lin, anti, rch⟩ := dm_facts next sm hn
  rcases h with ⟨rfl, h⟩ | ⟨m, rfl, hm, hne, hd, h⟩
  · by_cases hc : Rch next b ∧ b ≠ 0
    · obtain ⟨m, e, hm, hne, hx⟩ := nr.yes b hc.1 hc.2
      exact absurd ((hx m).mp (refl m hm)).1 (h m (Rch.lt hm) hne)
    · exact (nr.no b hb (by
        by_cases h0 : b = 0
        · exact Or.inr h0
        · exact Or.inl fun hr => hc ⟨hr, h0⟩)).symm
  · have h0 : b ≠ 0 := by
      rintro rfl
      exact hd.2 (.root (Ne.symm hne))
    obtain ⟨m0, e, hm0, hne0, hx⟩ := nr.yes b hd.1 h0
    have h1 : Dm next m m0 := (hx m).mpr ⟨hd, hne⟩
    have h2 : Dm next m0 m := h m0 (Rch.lt hm0) hne0 ((hx m0).mp (refl m0 hm0)).1
    rw [e, anti m m0 h1 h2]
theorem l1_ev {next : List (List Int)} (sm : Small next) {D : List Int} (nr : Near next D) {b : Nat} (hb : b < next.length) {out : List Int} (ho : out.length ≤ 1000) {R : List Int} (hR : Ev (fun k => ladderbackref31_Idom.l0 k next (out ++ [D.getD b 0]) ((b + 1 : Nat) : Int)) R) :
    ∀ (r a : Nat) (best : Int), a + r = next.length → Bst next b a best → Ev (fun k => ladderbackref31_Idom.l1 k next out (b : Int) best (a : Int)) R := by
  have hn : 0 < next.length := by omega
  have hnl := sm.1
  obtain ⟨refl, trans, lin, anti, rch⟩ := dm_facts next sm hn
  intro r
  induction r with
  | zero =>
    intro a best ha h
    obtain rfl : a = next.length := by omega
    have e := bst_end sm nr hb h
    subst e
    obtain ⟨K, g⟩ := hR
    simp only at g
    refine ⟨K + 1, fun k hk => ?_⟩
    obtain ⟨k, rfl⟩ : ∃ m, k = m + 1 := ⟨k - 1, by omega⟩
    simp only [ladderbackref31_Idom.l1]
    rw [if_neg (by omega), if_pos (by omega), wnext b (by omega)]
    exact g k (by omega)
  | succ r ih =>
    intro a best ha h
    have hal : a < next.length := by omega
    have nextb : ∀ best', Bst next b (a + 1) best' → Ev (fun k => ladderbackref31_Idom.l1 k next out (b : Int) best' (wrap64 ((a : Int) + 1))) R := by
      intro best' h'
      rw [wnext a (by omega)]
      exact ih (a + 1) best' (by omega) h'
    by_cases hab : a = b
    · obtain ⟨K, g⟩ := nextb best (by
        rcases h with ⟨rfl, h⟩ | ⟨m, rfl, hm, hne, hd, h⟩
        · exact Or.inl ⟨rfl, fun x hx hxb => h x (by omega) hxb⟩
        · exact Or.inr ⟨m, rfl, hm, hne, hd, fun x hx hxb hxd => h x (by omega) hxb hxd⟩)
      simp only at g
      refine ⟨K + 1, fun k hk => ?_⟩
      obtain ⟨k, rfl⟩ : ∃ m, k = m + 1 := ⟨k - 1, by omega⟩
      simp only [ladderbackref31_Idom.l1]
      rw [if_pos (by omega), if_pos (by omega)]
      exact g k (by omega)
    · have habI : ¬ ((a : Int) = (b : Int)) := fun h => hab (Int.ofNat_inj.mp h)
      obtain ⟨d1, ⟨K1, g1⟩, hd1⟩ := dominates_ev next sm (a : Int) (b : Int)
      simp only at g1
      have hd1' : d1 = true ↔ Dm next a b := hd1.trans ⟨fun ⟨x, v, e1, e2, _, hh⟩ => by
        have : a = x := by omega
        have : b = v := by omega
        subst_vars; exact hh, fun h => ⟨a, b, rfl, rfl, hal, h⟩⟩
      cases hdd : d1 with
      | false =>
        rw [hdd] at g1 hd1'
        have hno : ¬ Dm next a b := fun h => by have := hd1'.mpr h; cases this
        obtain ⟨K, g⟩ := nextb best (by
          rcases h with ⟨rfl, h⟩ | ⟨m, rfl, hm, hne, hd, h⟩
          · refine Or.inl ⟨rfl, fun x hx hxb hxd => ?_⟩
            by_cases e : x = a
            · subst e; exact hno hxd
            · exact h x (by omega) hxb hxd
          · refine Or.inr ⟨m, rfl, hm, hne, hd, fun x hx hxb hxd => ?_⟩
            by_cases e : x = a
            · subst e; exact absurd hxd hno
            · exact h x (by omega) hxb hxd)
        simp only at g
        refine ⟨max K K1 + 1, fun k hk => ?_⟩
        obtain ⟨k, rfl⟩ : ∃ m, k = m + 1 := ⟨k - 1, by omega⟩
        simp only [ladderbackref31_Idom.l1]
        rw [if_pos (by omega), if_neg habI, g1 k (by omega)]
        simp only [Option.bind_some, Bool.false_eq_true, if_false]
        exact g k (by omega)
      | true =>
        rw [hdd] at g1 hd1'
        have hyes : Dm next a b := hd1'.mp rfl
        have haR : Rch next a := rch a b hyes
        rcases h with ⟨rfl, h⟩ | ⟨m, rfl, hm, hne, hd, h⟩
        · obtain ⟨K, g⟩ := nextb (a : Int) (Or.inr ⟨a, rfl, hal, hab, hyes, fun x hx hxb hxd => by
            by_cases e : x = a
            · subst e; exact refl x haR
            · exact absurd hxd (h x (by omega) hxb)⟩)
          simp only at g
          refine ⟨max K K1 + 1, fun k hk => ?_⟩
          obtain ⟨k, rfl⟩ : ∃ m, k = m + 1 := ⟨k - 1, by omega⟩
          simp only [ladderbackref31_Idom.l1]
          rw [if_pos (by omega), if_neg habI, g1 k (by omega)]
          simp only [Option.bind_some, if_true]
          rw [if_pos (by omega)]
          exact g k (by omega)
        · have hm0 : ¬ ((m : Int) < 0) := by omega
          obtain ⟨d2, ⟨K2, g2⟩, hd2⟩ := dominates_ev next sm (m : Int) (a : Int)
          simp only at g2
          have hd2' : d2 = true ↔ Dm next m a := hd2.trans ⟨fun ⟨x, v, e1, e2, _, hh⟩ => by
            have : m = x := by omega
            have : a = v := by omega
            subst_vars; exact hh, fun h => ⟨m, a, rfl, rfl, hm, h⟩⟩
          cases hde : d2 with
          | true =>
            rw [hde] at g2 hd2'
            have hma := hd2'.mp rfl
            obtain ⟨K, g⟩ := nextb (a : Int) (Or.inr ⟨a, rfl, hal, hab, hyes, fun x hx hxb hxd => by
              by_cases e : x = a
              · subst e; exact refl x haR
              · exact trans x m a (h x (by omega) hxb hxd) hma⟩)
            simp only at g
            refine ⟨max K (max K1 K2) + 1, fun k hk => ?_⟩
            obtain ⟨k, rfl⟩ : ∃ m, k = m + 1 := ⟨k - 1, by omega⟩
            simp only [ladderbackref31_Idom.l1]
            rw [if_pos (by omega), if_neg habI, g1 k (by omega)]
            simp only [Option.bind_some, if_true]
            rw [if_neg hm0, g2 k (by omega)]
            simp only [Option.bind_some, if_true]
            exact g k (by omega)
          | false =>
            rw [hde] at g2 hd2'
            have hno : ¬ Dm next m a := fun h => by have := hd2'.mpr h; cases this
            obtain ⟨K, g⟩ := nextb (m : Int) (Or.inr ⟨m, rfl, hm, hne, hd, fun x hx hxb hxd => by
              by_cases e : x = a
              · subst e; exact (lin x m b hxd hd).resolve_right hno
              · exact h x (by omega) hxb hxd⟩)
            simp only at g
            refine ⟨max K (max K1 K2) + 1, fun k hk => ?_⟩
            obtain ⟨k, rfl⟩ : ∃ m, k = m + 1 := ⟨k - 1, by omega⟩
            simp only [ladderbackref31_Idom.l1]
            rw [if_pos (by omega), if_neg habI, g1 k (by omega)]
            simp only [Option.bind_some, if_true]
            rw [if_neg hm0, g2 k (by omega)]
            simp only [Option.bind_some, Bool.false_eq_true, if_false]
            exact g k (by omega)
theorem ridom_ev (next : List (List Int)) (sm : Small next) (D : List Int) (nr : Near next D) : Ev (fun k => ladderbackref31_Idom.f k next) D := by
  have hnl := sm.1
  have key : ∀ r b : Nat, b + r = next.length → Ev (fun k => ladderbackref31_Idom.l0 k next (D.take b) (b : Int)) D := by
    intro r
    induction r with
    | zero =>
      intro b hb
      refine ⟨1, fun k hk => ?_⟩
      obtain ⟨k, rfl⟩ : ∃ m, k = m + 1 := ⟨k - 1, by omega⟩
      simp only [ladderbackref31_Idom.l0]
      rw [if_neg (by omega), List.take_of_length_le (by have := nr.len; omega)]
    | succ r ih =>
      intro b hb
      have hbl : b < D.length := by have := nr.len; omega
      have e : D.take (b + 1) = D.take b ++ [D.getD b 0] := by
        rw [List.take_succ_eq_append_getElem hbl]
        simp [List.getD_eq_getElem?_getD, hbl]
      have h := ih (b + 1) (by omega)
      rw [e] at h
      obtain ⟨K, g⟩ := l1_ev sm nr (b := b) (by omega) (out := D.take b) (by rw [List.length_take]; omega) h next.length 0 (-1) (by omega) (Or.inl ⟨rfl, fun x hx => by omega⟩)
      simp only at g
      refine ⟨K + 1, fun k hk => ?_⟩
      obtain ⟨k, rfl⟩ : ∃ m, k = m + 1 := ⟨k - 1, by omega⟩
      simp only [ladderbackref31_Idom.l0]
      rw [if_pos (by omega)]
      exact g k (by omega)
  have := key next.length 0 (by omega)
  rw [List.take_zero] at this
  exact this
theorem idom_near (next : List (List Int)) (sm : Small next) : ∃ D, Ev (fun k => dom_Idom.f k next) D ∧ Near next D := by
  by_cases hn : 0 < next.length
  · obtain ⟨K, D, h1, h2, h3, h4⟩ := idom_some next sm hn
    exact ⟨D, ⟨K, h1⟩, h2, h3, h4⟩
  · have e : next = [] := List.eq_nil_of_length_eq_zero (by omega)
    subst e
    refine ⟨[], ⟨0, fun k _ => rfl⟩, rfl, fun v hv => ?_, fun v hv => ?_⟩
    · simp at hv
    · have := Rch.lt hv
      simp at this
end Go.Proofs.Ytalhmelcbodjeaa.PdiDomNearest
