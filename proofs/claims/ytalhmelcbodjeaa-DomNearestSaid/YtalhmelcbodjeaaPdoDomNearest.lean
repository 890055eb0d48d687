/- The document's order is the program's; plain. No condition. -/
import Derived.Test.YtalhmelcbodjeaaQDomNearestx
import Derived.Test.YtalhmelcbodjeaaDomE
namespace Go.Proofs.Ytalhmelcbodjeaa.PdoDomNearest
open Go.Proofs.Ytalhmelcbodjeaa Go.Proofs.Ytalhmelcbodjeaa.QDomNearest Go.Proofs.Ytalhmelcbodjeaa.DomA Go.Proofs.Ytalhmelcbodjeaa.DomF Go.RowKit Go.Proofs.YtalhmelcbodjeaaW.PrintWords Go.Proofs.YtalhmelcbodjeaaW.PrintLast Go.Proofs.YtalhmelcbodjeaaW.PrintMore
set_option linter.unusedSimpArgs false
set_option linter.unusedVariables false
theorem w64_of {x : Int} (h0 : -9223372036854775808 ≤ x) (h1 : x ≤ 9223372036854775807) : wrap64 x = x := by
  unfold wrap64
  omega
theorem wnext (i : Nat) (h : i < 4611686018427387904) : wrap64 ((i : Int) + 1) = ((i + 1 : Nat) : Int) := by rw [w64_of (by omega) (by omega)]; omega
theorem drop_rd (L : List Int) (j : Nat) (h : j < L.length) : L.drop j = rd L (j : Int) :: L.drop (j + 1) := by
  rw [List.drop_eq_getElem_cons h]
  simp [rd, h]
theorem deep_ev (next : List (List Int)) (hn : next.length < 4611686018427387904) (hbig : ∀ i, (next.getD i []).length < 4611686018427387904) : ∀ K i M D M1 D1, i < next.length → M.length = next.length → dfs next K i M D = some (M1, D1) → D1.length ≤ 17592186044416 → Ev (fun k => ladderbackref31_Deep.f k next (i : Int) M D) (D1, M1) := by
  intro K
  induction K with
  | zero => intro i M D M1 D1 _ _ h; cases h
  | succ K ih =>
    intro i M D M1 D1 hi hM h hD
    simp only [dfs] at h
    obtain ⟨⟨M2, D2⟩, hq, h⟩ := Option.map_eq_some_iff.mp h
    simp only [Prod.mk.injEq] at h
    obtain ⟨rfl, rfl⟩ := h
    have key : ∀ (r j : Nat) (M' : List Bool) (D' : List Int), j + r = (next.getD i []).length → M'.length = next.length → dfsL (dfs next K) next.length ((next.getD i []).drop j) M' D' = some (M2, D2) → Ev (fun k => ladderbackref31_Deep.l0 k next (i : Int) M' D' (j : Int)) (D2 ++ [(i : Int)], M2) := by
      intro r
      induction r with
      | zero =>
        intro j M' D' hj hM' hq
        rw [List.drop_eq_nil_of_le (by omega)] at hq
        simp only [dfsL, Option.some.injEq, Prod.mk.injEq] at hq
        obtain ⟨rfl, rfl⟩ := hq
        refine ⟨1, fun k hk => ?_⟩
        obtain ⟨k, rfl⟩ : ∃ m, k = m + 1 := ⟨k - 1, by omega⟩
        simp only [ladderbackref31_Deep.l0]
        simp only [List.length_append, List.length_cons, List.length_nil] at hD
        rw [if_pos (by omega), if_pos (by omega), if_neg (by simp only [rd_L1, Int.toNat_natCast]; omega), if_pos (by omega)]
      | succ r ihr =>
        intro j M' D' hj hM' hq
        have hjl : j < (next.getD i []).length := by omega
        rw [drop_rd _ j hjl] at hq
        simp only [dfsL] at hq
        have hstep : ∀ k, ladderbackref31_Deep.l0 (k + 1) next (i : Int) M' D' (j : Int) = (if (rd (next.getD i []) (j : Int)) ≥ 0 then (if (rd (next.getD i []) (j : Int)) < (next.length : Int) then (if (rdOf false M' (rd (next.getD i []) (j : Int)) = true) then (ladderbackref31_Deep.l0 k next (i : Int) M' D' ((j + 1 : Nat) : Int)) else ((ladderbackref31_Deep.f k next (rd (next.getD i []) (j : Int)) M' D').bind fun bt => (ladderbackref31_Deep.l0 k next (i : Int) bt.2 bt.1 ((j + 1 : Nat) : Int)))) else (ladderbackref31_Deep.l0 k next (i : Int) M' D' ((j + 1 : Nat) : Int))) else (ladderbackref31_Deep.l0 k next (i : Int) M' D' ((j + 1 : Nat) : Int))) := by
          intro k
          have := hbig i
          simp only [ladderbackref31_Deep.l0]
          rw [if_pos (by omega), if_pos (by omega), if_pos (by simp only [rd_L1, Int.toNat_natCast]; omega), if_pos (by omega), wnext j (by omega)]
          simp only [rd_L1, Int.toNat_natCast]
          by_cases c1 : rd (next.getD i []) (j : Int) ≥ 0
          · by_cases c2 : rd (next.getD i []) (j : Int) < (next.length : Int)
            · have c3 : rd (next.getD i []) (j : Int) < (M'.length : Int) := by omega
              have c4 : 0 ≤ rd (next.getD i []) (j : Int) := c1
              simp only [ge_iff_le, c4, c2, c3, if_true]
              rfl
            · have c4 : 0 ≤ rd (next.getD i []) (j : Int) := c1
              simp only [ge_iff_le, c4, c2, if_true, if_false]
          · have c4 : ¬ 0 ≤ rd (next.getD i []) (j : Int) := c1
            simp only [ge_iff_le, c4, if_false]
        generalize rd (next.getD i []) (j : Int) = c at hq hstep
        by_cases hc : 0 ≤ c ∧ c < (next.length : Int) ∧ M'.getD c.toNat true = false
        · rw [if_pos hc] at hq
          obtain ⟨h0, h1, h2⟩ := hc
          obtain ⟨⟨M3, D3⟩, hq1, hq2⟩ := Option.bind_eq_some_iff.mp hq
          have hl3 := dfs_len next K _ _ _ _ hq1
          have hl2 := dfsL_len (dfs_len next K) _ _ _ _ hq2
          simp only at hl3 hl2
          have e1 : ((c.toNat : Nat) : Int) = c := by omega
          obtain ⟨K1, g1⟩ := ih c.toNat M' D' M3 D3 (by omega) hM' hq1 (by simp only [List.length_append, List.length_cons, List.length_nil] at hD; omega)
          obtain ⟨K2, g2⟩ := ihr (j + 1) M3 D3 (by omega) (by omega) hq2
          simp only [e1] at g1 g2
          refine ⟨max K1 K2 + 1, fun k hk => ?_⟩
          obtain ⟨k, rfl⟩ : ∃ m, k = m + 1 := ⟨k - 1, by omega⟩
          show ladderbackref31_Deep.l0 (k + 1) next (i : Int) M' D' (j : Int) = _
          have e2 : rdOf false M' c = false := by
            have hlt : c.toNat < M'.length := by omega
            simpa [rdOf, List.getD_eq_getElem?_getD, hlt] using h2
          rw [hstep k, if_pos h0, if_pos h1, e2, if_neg (by decide), g1 k (by omega)]
          exact g2 k (by omega)
        · rw [if_neg hc] at hq
          obtain ⟨K2, g2⟩ := ihr (j + 1) M' D' (by omega) hM' hq
          simp only at g2
          refine ⟨K2 + 1, fun k hk => ?_⟩
          obtain ⟨k, rfl⟩ : ∃ m, k = m + 1 := ⟨k - 1, by omega⟩
          show ladderbackref31_Deep.l0 (k + 1) next (i : Int) M' D' (j : Int) = _
          rw [hstep k]
          by_cases h0 : c ≥ 0
          · rw [if_pos h0]
            by_cases h1 : c < (next.length : Int)
            · rw [if_pos h1]
              have e2 : rdOf false M' c = true := by
                have hlt : c.toNat < M'.length := by omega
                cases h4 : M'.getD c.toNat true with
                | false => exact absurd ⟨h0, h1, h4⟩ hc
                | true => simpa [rdOf, List.getD_eq_getElem?_getD, hlt] using h4
              rw [if_pos e2]
              exact g2 k (by omega)
            · rw [if_neg h1]
              exact g2 k (by omega)
          · rw [if_neg h0]
            exact g2 k (by omega)
    obtain ⟨K1, g1⟩ := key (next.getD i []).length 0 (M.set i true) D (by omega) (by rw [List.length_set]; exact hM) (by rw [List.drop_zero]; exact hq)
    refine ⟨K1 + 1, fun k hk => ?_⟩
    obtain ⟨k, rfl⟩ : ∃ m, k = m + 1 := ⟨k - 1, by omega⟩
    simp only [ladderbackref31_Deep.f]
    rw [if_pos (by omega), if_pos (by omega), Int.toNat_natCast]
    exact g1 k (by omega)
theorem rev_ev (D : List Int) (hD : D.length ≤ 17592186044416) : ∀ (j : Nat) (out : List Int), j ≤ D.length → out = (D.drop j).reverse → Ev (fun k => ladderbackref31_Order.l0 k D out ((j : Int) - 1)) D.reverse := by
  intro j
  induction j with
  | zero =>
    intro out hj ho
    refine ⟨1, fun k hk => ?_⟩
    obtain ⟨k, rfl⟩ : ∃ m, k = m + 1 := ⟨k - 1, by omega⟩
    simp only [ladderbackref31_Order.l0]
    rw [if_neg (by omega), ho, List.drop_zero]
  | succ j ih =>
    intro out hj ho
    obtain ⟨K, g⟩ := ih (out ++ [rd D (j : Int)]) (by omega) (by rw [drop_rd D j (by omega), ho, List.reverse_cons])
    simp only at g
    refine ⟨K + 1, fun k hk => ?_⟩
    obtain ⟨k, rfl⟩ : ∃ m, k = m + 1 := ⟨k - 1, by omega⟩
    simp only [ladderbackref31_Order.l0]
    have e1 : ((j + 1 : Nat) : Int) - 1 = (j : Int) := by omega
    have hol : out.length < 17592186044416 := by rw [ho, List.length_reverse, List.length_drop]; omega
    rw [e1, if_pos (by omega), if_pos (by omega), if_pos (by omega), if_pos hol, w64_of (by omega) (by omega)]
    exact g k (by omega)
/-- The order of a graph, as the document tells it. -/
theorem rorder_ev (next : List (List Int)) (r : List Int) (h : dom_Order.f next = some r) : Ev (fun k => ladderbackref31_Order.f k next) r := by
  unfold dom_Order.f at h
  split at h
  rotate_left
  · cases h
  rename_i hg
  obtain ⟨hg1, hg2⟩ := hg
  obtain ⟨r', ho, h⟩ := Option.bind_eq_some_iff.mp h
  split at h
  rotate_left
  · cases h
  rename_i hg3
  obtain rfl := Option.some.inj h
  have hlen : ∀ i, (next.getD i []).length < 4611686018427387904 := by
    intro i
    by_cases hi : i < next.length
    · have := List.all_eq_true.mp hg2 (next.getD i []) (by simp [List.getD_eq_getElem?_getD, hi])
      simpa using this
    · simp [List.getD_eq_getElem?_getD, hi]
  unfold orderF at ho
  by_cases hz : next.length = 0
  · rw [if_pos hz] at ho
    obtain rfl := Option.some.inj ho
    refine ⟨0, fun k _ => ?_⟩
    simp only [ladderbackref31_Order.f]
    rw [if_pos (by omega)]
  · rw [if_neg hz] at ho
    obtain ⟨⟨M1, D1⟩, hq, ho⟩ := Option.map_eq_some_iff.mp ho
    subst ho
    simp only [List.length_reverse] at hg3
    obtain ⟨K1, g1⟩ := deep_ev next (by omega) hlen next.length 0 _ [] M1 D1 (by omega) (by simp) hq (by simpa using hg3)
    obtain ⟨K2, g2⟩ := rev_ev D1 (by simpa using hg3) D1.length [] (Nat.le_refl _) (by simp)
    simp only at g1 g2
    refine ⟨max K1 K2, fun k hk => ?_⟩
    simp only [ladderbackref31_Order.f]
    have g1' := g1 k (by omega)
    rw [show ((0 : Nat) : Int) = 0 from rfl] at g1'
    rw [if_neg (by omega), if_pos (by omega), if_pos (by omega), Int.toNat_natCast, g1']
    simp only [Option.bind_some]
    rw [w64_of (by omega) (by have : D1.length ≤ 17592186044416 := by simpa using hg3
                              omega)]
    exact g2 k (by omega)
end Go.Proofs.Ytalhmelcbodjeaa.PdoDomNearest
