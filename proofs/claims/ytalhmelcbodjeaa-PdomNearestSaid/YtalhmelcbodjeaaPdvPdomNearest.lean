/- pdom.Nearest and the document's: the nearest postdominators; plain. No condition but that the graph is small. -/
import Derived.Test.YtalhmelcbodjeaaPduPdomNearest
namespace Go.Proofs.Ytalhmelcbodjeaa.PdvPdomNearest
open Go.Proofs.Ytalhmelcbodjeaa Go.Proofs.Ytalhmelcbodjeaa.QPdomNearest Go.Proofs.Ytalhmelcbodjeaa.PdB Go.Proofs.Ytalhmelcbodjeaa.PdtPdomNearest Go.Proofs.Ytalhmelcbodjeaa.PduPdomNearest Go.Proofs.Ytalhmelcbodjeaa.DomS Go.Proofs.Ytalhmelcbodjeaa.DomA Go.Proofs.Ytalhmelcbodjeaa.DomF Go.Proofs.Ytalhmelcbodjeaa.DomP Go.Proofs.Ytalhmelcbodjeaa.DomT Go.RowKit Go.Proofs.YtalhmelcbodjeaaW.PrintWords Go.Proofs.YtalhmelcbodjeaaW.PrintLast Go.Proofs.YtalhmelcbodjeaaW.PrintMore
set_option linter.unusedSimpArgs false
set_option linter.unusedVariables false
/-- The nearest dominators stand there. -/
structure Near (next : List (List Int)) (D : List Int) : Prop where
  len : D.length = next.length
  no : ∀ v, v < next.length → (¬ Rch next v ∨ v = 0) → D.getD v 0 = -1
  yes : ∀ v, Rch next v → v ≠ 0 → ∃ m : Nat, D.getD v 0 = (m : Int) ∧ Rch next m ∧ m ≠ v ∧ ∀ x, Dm next x m ↔ Dm next x v ∧ x ≠ v
def wv (n : Nat) (d : Int) : Int := if d = -1 then -1 else if d = 0 then (n : Int) else d - 1
theorem near_range {T : List (List Int)} {D : List Int} (nr : Near T D) (v : Nat) (hv : v < T.length) : -1 ≤ D.getD v 0 ∧ D.getD v 0 < (T.length : Int) := by
  by_cases h : Rch T v ∧ v ≠ 0
  · obtain ⟨m, e, hm, _⟩ := nr.yes v h.1 h.2
    have := DomP.Rch.lt hm
    omega
  · have e := nr.no v hv (by
      by_cases h0 : v = 0
      · exact Or.inr h0
      · exact Or.inl fun hr => h ⟨hr, h0⟩)
    omega
theorem map_ev (next : List (List Int)) (hn : next.length ≤ 20) (Y : List Int) (hY : Y.length ≤ 1000) (hr : ∀ v, v < Y.length → -1 ≤ rd Y (v : Int) ∧ rd Y (v : Int) < 1000) : Ev (fun k => pdom_Nearest.l0 k next [] Y (Y.length : Int) 0) (Y.map (wv next.length)) := by
  have key : ∀ r i : Nat, i + r = Y.length → Ev (fun k => pdom_Nearest.l0 k next ((Y.take i).map (wv next.length)) Y (Y.length : Int) (i : Int)) (Y.map (wv next.length)) := by
    intro r
    induction r with
    | zero =>
      intro i hi
      obtain rfl : i = Y.length := by omega
      refine ⟨1, fun k hk => ?_⟩
      obtain ⟨k, rfl⟩ : ∃ m, k = m + 1 := ⟨k - 1, by omega⟩
      simp only [pdom_Nearest.l0]
      rw [if_neg (by omega), List.take_length]
    | succ r ih =>
      intro i hi
      obtain ⟨K, g⟩ := ih (i + 1) (by omega)
      simp only at g
      refine ⟨K + 1, fun k hk => ?_⟩
      obtain ⟨k, rfl⟩ : ∃ m, k = m + 1 := ⟨k - 1, by omega⟩
      have hg := g k (by omega)
      have hb := hr i (by omega)
      rw [take_rd Y i (by omega), List.map_append, List.map_cons, List.map_nil] at hg
      have hl : ((Y.take i).map (wv next.length)).length < 17592186044416 := by rw [List.length_map, List.length_take]; omega
      simp only [pdom_Nearest.l0]
      rw [if_pos (by omega), if_pos (by omega), if_pos (by omega), wnext i (by omega)]
      generalize rd Y (i : Int) = c at hg hb
      unfold wv at hg ⊢
      unfold wv at hl
      by_cases e1 : c = -1
      · rw [if_pos e1, if_pos hl]
        rw [if_pos e1] at hg
        exact hg
      · rw [if_neg e1]
        rw [if_neg e1] at hg
        by_cases e2 : c = 0
        · rw [if_pos e2, if_pos hl]
          rw [if_pos e2] at hg
          exact hg
        · rw [if_neg e2, if_pos hl, w64_of (by omega) (by omega)]
          rw [if_neg e2] at hg
          exact hg
  obtain ⟨K, g⟩ := key Y.length 0 (by omega)
  simp only [List.take_zero, List.map_nil] at g
  exact ⟨K, g⟩
theorem rd_drop (D : List Int) (v : Nat) : rd (D.drop 1) (v : Int) = D.getD (v + 1) 0 := by
  simp [rd, List.getD_eq_getElem?_getD, Nat.add_comm]
theorem nearest_ev (next T : List (List Int)) (hn : next.length ≤ 20) (tn : Tn next T) (hT : Ev (fun k => pdom_Turned.f k next) T) {D : List Int} (hD : Ev (fun k => dom_Idom.f k T) D) (nr : Near T D) :
    Ev (fun k => pdom_Nearest.f k next) ((D.drop 1).map (wv next.length)) := by
  have hDl : D.length = next.length + 1 := nr.len.trans tn.len
  have hTl := tn.len
  obtain ⟨K1, g1⟩ := hT
  obtain ⟨K2, g2⟩ := hD
  obtain ⟨K3, g3⟩ := map_ev next hn (D.drop 1) (by rw [List.length_drop]; omega) (fun v hv => by
    rw [List.length_drop] at hv
    rw [rd_drop]
    have := near_range nr (v + 1) (by omega)
    omega)
  simp only at g1 g2 g3
  refine ⟨max K1 (max K2 K3), fun k hk => ?_⟩
  simp only [pdom_Nearest.f]
  rw [g1 k (by omega)]
  simp only [Option.bind_some]
  rw [g2 k (by omega)]
  simp only [Option.bind_some]
  rw [if_pos (by omega)]
  exact g3 k (by omega)
/-- The best of the places below a. -/
def PB (T : List (List Int)) (n i a : Nat) (best : Int) : Prop := (best = -1 ∧ ∀ x, x < a → x ≠ i → ¬ Dm T (phi n x) (phi n i)) ∨
  ∃ m : Nat, best = (m : Int) ∧ m < a ∧ m ≤ n ∧ m ≠ i ∧ Dm T (phi n m) (phi n i) ∧ ∀ x, x < a → x ≠ i → Dm T (phi n x) (phi n i) → Dm T (phi n x) (phi n m)
theorem dm_root (T : List (List Int)) {j : Nat} (h : Rch T j) : Dm T 0 j := by
  refine ⟨h, fun ha => ?_⟩
  have key : ∀ y, Av (pre T) 0 y → False := by
    intro y hy
    induction hy with
    | root a => exact a rfl
    | step _ _ _ ih => exact ih
  exact key _ ha
theorem pb_end {next T : List (List Int)} (tn : Tn next T) (sm : Small T) {D : List Int} (nr : Near T D) {i : Nat} (hi : i < next.length) {best : Int} (h : PB T next.length i (next.length + 1) best) : best = wv next.length (D.getD (i + 1) 0) := by
  have hTl := tn.len
  obtain ⟨refl, trans, lin, anti, rch⟩ := dm_facts T sm (by omega)
  have ei : phi next.length i = i + 1 := by unfold phi; rw [if_neg (by omega)]
  unfold PB at h
  rw [ei] at h
  rcases h with ⟨rfl, h⟩ | ⟨m, rfl, hm, hmn, hne, hd, h⟩
  · by_cases hc : Rch T (i + 1)
    · obtain ⟨m, e, hm, hne, hx⟩ := nr.yes (i + 1) hc (by omega)
      have hml := DomP.Rch.lt hm
      obtain ⟨y, hy, rfl⟩ := phi_sur (n := next.length) (p := m) (by omega)
      exact absurd ((hx _).mp (refl _ hm)).1 (h y (by omega) (fun e2 => hne (by rw [e2, ei])))
    · rw [nr.no (i + 1) (by omega) (Or.inl hc)]
      rfl
  · obtain ⟨m0, e, hm0, hne0, hx⟩ := nr.yes (i + 1) hd.1 (by omega)
    have hml := DomP.Rch.lt hm0
    obtain ⟨y, hy, rfl⟩ := phi_sur (n := next.length) (p := m0) (by omega)
    have h1 : Dm T (phi next.length m) (phi next.length y) := (hx _).mpr ⟨hd, fun e2 => hne (phi_inj (e2.trans ei.symm))⟩
    have h2 : Dm T (phi next.length y) (phi next.length m) := h y (by omega) (fun e2 => hne0 (by rw [e2, ei])) ((hx _).mp (refl _ hm0)).1
    have h3 : m = y := phi_inj (anti _ _ h1 h2)
    subst h3
    rw [e]
    unfold wv phi
    split
    · rename_i e0; rw [e0]; rfl
    · rw [if_neg (by omega), if_neg (by omega)]; omega
theorem l1_ev {next T : List (List Int)} (hn : next.length ≤ 20) (hf : ∀ i, (next.getD i []).length ≤ 40) (tn : Tn next T) (sm : Small T) {D : List Int} (nr : Near T D) {i : Nat} (hi : i < next.length) {out R : List Int} (ho : out.length ≤ 1000)
    (hR : Ev (fun k => ladderbackref32_Nearest.l0 k next (out ++ [wv next.length (D.getD (i + 1) 0)]) (next.length : Int) ((i + 1 : Nat) : Int)) R) :
    ∀ (r a : Nat) (best : Int), a + r = next.length + 1 → PB T next.length i a best → Ev (fun k => ladderbackref32_Nearest.l1 k next out (next.length : Int) (i : Int) best (a : Int)) R := by
  have hTl := tn.len
  obtain ⟨refl, trans, lin, anti, rch⟩ := dm_facts T sm (by omega)
  intro r
  induction r with
  | zero =>
    intro a best ha h
    obtain rfl : a = next.length + 1 := by omega
    have e := pb_end tn sm nr hi h
    subst e
    obtain ⟨K, g⟩ := hR
    simp only at g
    refine ⟨K + 1, fun k hk => ?_⟩
    obtain ⟨k, rfl⟩ : ∃ m, k = m + 1 := ⟨k - 1, by omega⟩
    simp only [ladderbackref32_Nearest.l1]
    rw [if_neg (by omega), if_pos (by omega), wnext i (by omega)]
    exact g k (by omega)
  | succ r ih =>
    intro a best ha h
    have han : a ≤ next.length := by omega
    have nextb : ∀ best', PB T next.length i (a + 1) best' → Ev (fun k => ladderbackref32_Nearest.l1 k next out (next.length : Int) (i : Int) best' (wrap64 ((a : Int) + 1))) R := by
      intro best' h'
      rw [wnext a (by omega)]
      exact ih (a + 1) best' (by omega) h'
    have keep : (a ≠ i → Dm T (phi next.length a) (phi next.length i) → ∃ m : Nat, best = (m : Int) ∧ Dm T (phi next.length a) (phi next.length m)) → PB T next.length i (a + 1) best := by
      intro hk
      rcases h with ⟨e, h⟩ | ⟨m, e, hm, hmn, hne, hd, h⟩
      · refine Or.inl ⟨e, fun x hx hxi => ?_⟩
        by_cases ex : x = a
        · subst ex
          intro hdm
          obtain ⟨m, e2, _⟩ := hk hxi hdm
          omega
        · exact h x (by omega) hxi
      · refine Or.inr ⟨m, e, by omega, hmn, hne, hd, fun x hx hxi hdm => ?_⟩
        by_cases ex : x = a
        · subst ex
          obtain ⟨m', e2, h2⟩ := hk hxi hdm
          obtain rfl : m' = m := by omega
          exact h2
        · exact h x (by omega) hxi hdm
    by_cases hai : a = i
    · obtain ⟨K, g⟩ := nextb best (keep (fun h => absurd hai h))
      simp only at g
      refine ⟨K + 1, fun k hk => ?_⟩
      obtain ⟨k, rfl⟩ : ∃ m, k = m + 1 := ⟨k - 1, by omega⟩
      simp only [ladderbackref32_Nearest.l1]
      rw [if_pos (by omega), if_pos (by omega)]
      exact g k (by omega)
    · obtain ⟨b, ⟨K1, g1⟩, hb⟩ := through_ev next T hn hf tn a i han (by omega)
      simp only at g1
      cases b with
      | false =>
        have hno : ¬ Dm T (phi next.length a) (phi next.length i) := fun h => by have := hb.mpr h; cases this
        obtain ⟨K, g⟩ := nextb best (keep (fun _ h => absurd h hno))
        simp only at g
        refine ⟨max K K1 + 1, fun k hk => ?_⟩
        obtain ⟨k, rfl⟩ : ∃ m, k = m + 1 := ⟨k - 1, by omega⟩
        simp only [ladderbackref32_Nearest.l1]
        rw [if_pos (by omega), if_neg (by omega), g1 k (by omega)]
        simp only [Option.bind_some, Bool.false_eq_true, if_false]
        exact g k (by omega)
      | true =>
        have hd := hb.mp rfl
        have hra := rch _ _ hd
        rcases h with ⟨rfl, h⟩ | ⟨m, rfl, hm, hmn, hne, hdm, h⟩
        · obtain ⟨K, g⟩ := nextb (a : Int) (Or.inr ⟨a, rfl, by omega, han, hai, hd, fun x hx hxi hdx => by
            by_cases ex : x = a
            · subst ex; exact refl _ hra
            · exact absurd hdx (h x (by omega) hxi)⟩)
          simp only at g
          refine ⟨max K K1 + 1, fun k hk => ?_⟩
          obtain ⟨k, rfl⟩ : ∃ m, k = m + 1 := ⟨k - 1, by omega⟩
          simp only [ladderbackref32_Nearest.l1]
          rw [if_pos (by omega), if_neg (by omega), g1 k (by omega)]
          simp only [Option.bind_some, if_true]
          rw [if_pos (by omega)]
          exact g k (by omega)
        · by_cases han2 : a = next.length
          · obtain ⟨K, g⟩ := nextb (m : Int) (keep (fun _ _ => ⟨m, rfl, by
              have e0 : phi next.length a = 0 := by simp [phi, han2]
              rw [e0]
              exact dm_root T (rch _ _ hdm)⟩))
            simp only at g
            refine ⟨max K K1 + 1, fun k hk => ?_⟩
            obtain ⟨k, rfl⟩ : ∃ m, k = m + 1 := ⟨k - 1, by omega⟩
            simp only [ladderbackref32_Nearest.l1]
            rw [if_pos (by omega), if_neg (by omega), g1 k (by omega)]
            simp only [Option.bind_some, if_true]
            rw [if_neg (by omega), if_neg (by omega), if_pos (by omega)]
            exact g k (by omega)
          · obtain ⟨b2, ⟨K2, g2⟩, hb2⟩ := through_ev next T hn hf tn m a hmn han
            simp only at g2
            cases b2 with
            | true =>
              have hma := hb2.mp rfl
              obtain ⟨K, g⟩ := nextb (a : Int) (Or.inr ⟨a, rfl, by omega, han, hai, hd, fun x hx hxi hdx => by
                by_cases ex : x = a
                · subst ex; exact refl _ hra
                · exact trans _ _ _ (h x (by omega) hxi hdx) hma⟩)
              simp only at g
              refine ⟨max K (max K1 K2) + 1, fun k hk => ?_⟩
              obtain ⟨k, rfl⟩ : ∃ m, k = m + 1 := ⟨k - 1, by omega⟩
              simp only [ladderbackref32_Nearest.l1]
              rw [if_pos (by omega), if_neg (by omega), g1 k (by omega)]
              simp only [Option.bind_some, if_true]
              rw [if_neg (by omega), if_neg (by omega), if_neg (by omega), g2 k (by omega)]
              simp only [Option.bind_some, if_true]
              exact g k (by omega)
            | false =>
              have hno : ¬ Dm T (phi next.length m) (phi next.length a) := fun h => by have := hb2.mpr h; cases this
              obtain ⟨K, g⟩ := nextb (m : Int) (keep (fun _ _ => ⟨m, rfl, by
                rcases lin _ _ _ hd hdm with h1 | h1
                · exact h1
                · exact absurd h1 hno⟩))
              simp only at g
              refine ⟨max K (max K1 K2) + 1, fun k hk => ?_⟩
              obtain ⟨k, rfl⟩ : ∃ m, k = m + 1 := ⟨k - 1, by omega⟩
              simp only [ladderbackref32_Nearest.l1]
              rw [if_pos (by omega), if_neg (by omega), g1 k (by omega)]
              simp only [Option.bind_some, if_true]
              rw [if_neg (by omega), if_neg (by omega), if_neg (by omega), g2 k (by omega)]
              simp only [Option.bind_some, Bool.false_eq_true, if_false]
              exact g k (by omega)
theorem rnearest_ev (next T : List (List Int)) (hn : next.length ≤ 20) (hf : ∀ i, (next.getD i []).length ≤ 40) (tn : Tn next T) (sm : Small T) {D : List Int} (nr : Near T D) : Ev (fun k => ladderbackref32_Nearest.f k next) ((D.drop 1).map (wv next.length)) := by
  have hDl : D.length = next.length + 1 := nr.len.trans tn.len
  have key : ∀ r i : Nat, i + r = next.length → Ev (fun k => ladderbackref32_Nearest.l0 k next (((D.drop 1).take i).map (wv next.length)) (next.length : Int) (i : Int)) ((D.drop 1).map (wv next.length)) := by
    intro r
    induction r with
    | zero =>
      intro i hi
      obtain rfl : i = next.length := by omega
      refine ⟨1, fun k hk => ?_⟩
      obtain ⟨k, rfl⟩ : ∃ m, k = m + 1 := ⟨k - 1, by omega⟩
      simp only [ladderbackref32_Nearest.l0]
      rw [if_neg (by omega), List.take_of_length_le (by rw [List.length_drop]; omega)]
    | succ r ih =>
      intro i hi
      have h2 := ih (i + 1) (by omega)
      rw [take_rd (D.drop 1) i (by rw [List.length_drop]; omega), List.map_append, List.map_cons, List.map_nil, rd_drop] at h2
      obtain ⟨K, g⟩ := l1_ev hn hf tn sm nr (i := i) (by omega) (by rw [List.length_map, List.length_take]; omega) h2 (next.length + 1) 0 (-1) (by omega) (Or.inl ⟨rfl, fun x hx => by omega⟩)
      simp only at g
      refine ⟨K + 1, fun k hk => ?_⟩
      obtain ⟨k, rfl⟩ : ∃ m, k = m + 1 := ⟨k - 1, by omega⟩
      simp only [ladderbackref32_Nearest.l0]
      rw [if_pos (by omega)]
      exact g k (by omega)
  obtain ⟨K, g⟩ := key next.length 0 (by omega)
  simp only [List.take_zero, List.map_nil] at g
  exact ⟨K, fun k hk => by simp only [ladderbackref32_Nearest.f]; exact g k hk⟩
theorem near_some (T : List (List Int)) (sm : Small T) (hn : 0 < T.length) : ∃ D, Ev (fun k => dom_Idom.f k T) D ∧ Near T D := by
  obtain ⟨K, D, h1, h2, h3, h4⟩ := idom_some T sm hn
  exact ⟨D, ⟨K, h1⟩, ⟨h2, h3, h4⟩⟩
end Go.Proofs.Ytalhmelcbodjeaa.PdvPdomNearest
