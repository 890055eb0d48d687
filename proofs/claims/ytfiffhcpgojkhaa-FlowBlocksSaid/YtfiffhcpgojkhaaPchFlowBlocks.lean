/- Which rows have a place: both programs' lists; plain. No condition but that the rows are short. -/
import Derived.Test.YtfiffhcpgojkhaaQFlowBlocksx
import Derived.Test.YtfiffhcpgojkhaaPdC
namespace Go.Proofs.Ytfiffhcpgojkhaa.PchFlowBlocks
open Go.Proofs.Ytfiffhcpgojkhaa Go.Proofs.Ytfiffhcpgojkhaa.QFlowBlocks Go.Proofs.Ytfiffhcpgojkhaa.PdC Go.RowKit Go.Proofs.YtfiffhcpgojkhaaW.PrintWords Go.Proofs.YtfiffhcpgojkhaaW.PrintLast Go.Proofs.YtfiffhcpgojkhaaW.PrintMore
set_option linter.unusedSimpArgs false
set_option linter.unusedVariables false
theorem rdL3_eq (xs : List (List Int)) (i : Nat) : rd_L3 xs (i : Int) = xs.getD i [] := by simp [rd_L3]
/-- Membership. -/
theorem has_ev (l : List Int) (x : Int) (hl : l.length < 4611686018427387904) : Ev (fun k => ladderbackref30_Has.f k l x) (decide (x ∈ l)) := by
  have key : ∀ r i : Nat, i + r = l.length → Ev (fun k => ladderbackref30_Has.l0 k l x (i : Int)) (decide (x ∈ l.drop i)) := by
    intro r
    induction r with
    | zero =>
      intro i hi
      refine ⟨1, fun k hk => ?_⟩
      obtain ⟨k, rfl⟩ : ∃ m, k = m + 1 := ⟨k - 1, by omega⟩
      simp only [ladderbackref30_Has.l0]
      rw [if_neg (by omega), List.drop_eq_nil_of_le (by omega)]
      simp
    | succ r ih =>
      intro i hi
      obtain ⟨K, g⟩ := ih (i + 1) (by omega)
      simp only at g
      refine ⟨K + 1, fun k hk => ?_⟩
      obtain ⟨k, rfl⟩ : ∃ m, k = m + 1 := ⟨k - 1, by omega⟩
      simp only [ladderbackref30_Has.l0]
      rw [if_pos (by omega), if_pos (by omega), drop_rd l i (by omega)]
      by_cases e : rd l (i : Int) = x
      · rw [if_pos e]; simp [e]
      · rw [if_neg e, wnext i (by omega)]
        have h2 := g k (by omega)
        rw [h2]
        have e2 : ¬ x = rd l (i : Int) := fun h => e h.symm
        simp [e2]
  obtain ⟨K, g⟩ := key l.length 0 (by omega)
  simp only [List.drop_zero] at g
  exact ⟨K, fun k hk => by simp only [ladderbackref30_Has.f]; exact g k hk⟩
/-- The rows ahead of the n-th that have a place. -/
def prd (next : List (List Int)) (c n : Nat) : List Int := ((List.range n).filter fun j => decide ((c : Int) ∈ next.getD j [])).map fun j : Nat => (j : Int)
theorem prd_succ (next : List (List Int)) (c n : Nat) : prd next c (n + 1) = prd next c n ++ (if (c : Int) ∈ next.getD n [] then [(n : Int)] else []) := by
  unfold prd
  rw [List.range_succ, List.filter_append, List.map_append]
  congr 1
  by_cases h : (c : Int) ∈ next.getD n []
  · rw [if_pos h, List.filter_cons_of_pos (by simpa using h)]; rfl
  · rw [if_neg h, List.filter_cons_of_neg (by simpa using h)]; rfl
theorem prd_len (next : List (List Int)) (c n : Nat) : (prd next c n).length ≤ n := by
  unfold prd
  rw [List.length_map]
  refine Nat.le_trans (List.length_filter_le _ _) ?_
  simp
theorem prd_lt (next : List (List Int)) (c n : Nat) {x : Int} (h : x ∈ prd next c n) : x < (n : Int) := by
  unfold prd at h
  obtain ⟨j, hj, rfl⟩ := List.mem_map.mp h
  have := List.mem_range.mp (List.mem_filter.mp hj).1
  omega
theorem getDl_set (P : List (List Int)) (i j : Nat) (x : List Int) (hi : i < P.length) : (P.set i x).getD j [] = if j = i then x else P.getD j [] := by
  by_cases h : j = i
  · subst h; simp [List.getD_eq_getElem?_getD, hi]
  · rw [if_neg h]; simp [List.getD_eq_getElem?_getD, List.getElem?_set, Ne.symm h]
def prds (next : List (List Int)) : List (List Int) := (List.range next.length).map fun c => prd next c next.length
theorem list_eq {P : List (List Int)} {n : Nat} {f : Nat → List Int} (hl : P.length = n) (h : ∀ c, c < n → P.getD c [] = f c) : P = (List.range n).map f := by
  refine List.ext_getElem (by simp [hl]) fun i h1 h2 => ?_
  have := h i (by omega)
  simp only [List.getD_eq_getElem?_getD, h1, List.getElem?_eq_getElem, Option.getD_some] at this
  simp [this]
structure Sh (next : List (List Int)) : Prop where
  len : next.length ≤ 1000
  row : ∀ i, (next.getD i []).length ≤ 1000
theorem preds_ev {next : List (List Int)} (sh : Sh next) : Ev (fun k => flow_Preds.f k next) (prds next) := by
  have hn := sh.len
  have inner : ∀ (i : Nat), i < next.length → (∀ Q : List (List Int), Q.length = next.length → (∀ c, c < next.length → Q.getD c [] = prd next c (i + 1)) → Ev (fun k => flow_Preds.l0 k next Q next (next.length : Int) ((i + 1 : Nat) : Int)) (prds next)) →
      ∀ (r j : Nat) (Q : List (List Int)), j + r = (next.getD i []).length → Q.length = next.length → (∀ c, c < next.length → Q.getD c [] = prd next c i ++ (if (c : Int) ∈ (next.getD i []).take j then [(i : Int)] else [])) →
      Ev (fun k => flow_Preds.l1 k next Q (i : Int) next (next.length : Int) (i : Int) (next.getD i []) ((next.getD i []).length : Int) (j : Int)) (prds next) := by
    intro i hi hgo r
    have hri := sh.row i
    induction r with
    | zero =>
      intro j Q hj hQ h
      obtain rfl : j = (next.getD i []).length := by omega
      rw [List.take_length] at h
      obtain ⟨K, g⟩ := hgo Q hQ (fun c hc => by rw [h c hc, prd_succ])
      simp only at g
      refine ⟨K + 1, fun k hk => ?_⟩
      obtain ⟨k, rfl⟩ : ∃ m, k = m + 1 := ⟨k - 1, by omega⟩
      simp only [flow_Preds.l1]
      rw [if_neg (by omega), wnext i (by omega)]
      exact g k (by omega)
    | succ r ih =>
      intro j Q hj hQ h
      have htk := take_rd (next.getD i []) j (by omega)
      by_cases hc : 0 ≤ rd (next.getD i []) (j : Int) ∧ rd (next.getD i []) (j : Int) < (next.length : Int)
      · obtain ⟨c, hce⟩ : ∃ c : Nat, rd (next.getD i []) (j : Int) = (c : Int) := ⟨(rd (next.getD i []) (j : Int)).toNat, by omega⟩
        rw [hce] at hc htk
        have hcl : c < next.length := by omega
        have hQc := h c hcl
        have hpl := prd_len next c i
        by_cases hin : (c : Int) ∈ (next.getD i []).take j
        · rw [if_pos hin] at hQc
          obtain ⟨K, g⟩ := ih (j + 1) Q (by omega) hQ (fun d hd => by
            rw [h d hd, htk]
            congr 1
            by_cases e : d = c
            · subst e; rw [if_pos hin, if_pos (List.mem_append.mpr (Or.inl hin))]
            · have e2 : ((d : Int) ∈ (next.getD i []).take j ++ [(c : Int)]) ↔ (d : Int) ∈ (next.getD i []).take j := by
                rw [List.mem_append, List.mem_singleton]
                exact ⟨fun h => h.resolve_right (by omega), Or.inl⟩
              by_cases e3 : (d : Int) ∈ (next.getD i []).take j
              · rw [if_pos e3, if_pos (e2.mpr e3)]
              · rw [if_neg e3, if_neg (fun h => e3 (e2.mp h))])
          simp only at g
          have hlen : (prd next c i ++ [(i : Int)]).length = (prd next c i).length + 1 := by simp
          have ew : wrap64 (((prd next c i ++ [(i : Int)]).length : Int) - 1) = ((prd next c i).length : Int) := by rw [hlen, w64_of (by omega) (by omega)]; omega
          have er : rd (prd next c i ++ [(i : Int)]) ((prd next c i).length : Int) = (i : Int) := by simp [rd]
          refine ⟨K + 1, fun k hk => ?_⟩
          obtain ⟨k, rfl⟩ : ∃ m, k = m + 1 := ⟨k - 1, by omega⟩
          simp only [flow_Preds.l1]
          rw [if_pos (by omega), if_pos (by omega), if_pos (by omega), hce, if_pos (by omega), if_pos (by omega), if_pos (by omega), if_pos (by omega), rdL3_eq, hQc, if_neg (by omega), ew, if_pos (by omega), if_pos (by omega), er, if_pos rfl, wnext j (by omega)]
          exact g k (by omega)
        · rw [if_neg hin, List.append_nil] at hQc
          obtain ⟨K, g⟩ := ih (j + 1) (Q.set c (prd next c i ++ [(i : Int)])) (by omega) (by rw [List.length_set]; exact hQ) (fun d hd => by
            rw [getDl_set _ _ _ _ (by omega), htk]
            by_cases e : d = c
            · subst e; rw [if_pos rfl, if_pos (by simp)]
            · rw [if_neg e, h d hd]
              congr 1
              have e2 : ((d : Int) ∈ (next.getD i []).take j ++ [(c : Int)]) ↔ (d : Int) ∈ (next.getD i []).take j := by
                rw [List.mem_append, List.mem_singleton]
                exact ⟨fun h => h.resolve_right (by omega), Or.inl⟩
              by_cases e3 : (d : Int) ∈ (next.getD i []).take j
              · rw [if_pos e3, if_pos (e2.mpr e3)]
              · rw [if_neg e3, if_neg (fun h => e3 (e2.mp h))])
          simp only at g
          refine ⟨K + 1, fun k hk => ?_⟩
          obtain ⟨k, rfl⟩ : ∃ m, k = m + 1 := ⟨k - 1, by omega⟩
          simp only [flow_Preds.l1]
          rw [if_pos (by omega), if_pos (by omega), if_pos (by omega), hce, if_pos (by omega), if_pos (by omega), if_pos (by omega), if_pos (by omega), rdL3_eq, hQc, Int.toNat_natCast, wnext j (by omega)]
          by_cases h0 : ((prd next c i).length : Int) = 0
          · rw [if_pos h0, if_pos (by omega)]
            exact g k (by omega)
          · rw [if_neg h0]
            have ew : wrap64 (((prd next c i).length : Int) - 1) = (((prd next c i).length - 1 : Nat) : Int) := by rw [w64_of (by omega) (by omega)]; omega
            have hne : ¬ rd (prd next c i) (((prd next c i).length - 1 : Nat) : Int) = (i : Int) := by
              have := prd_lt next c i (rd_mem (prd next c i) ((prd next c i).length - 1) (by omega))
              omega
            rw [ew, if_pos (by omega), if_pos (by omega), if_neg hne, if_pos (by omega)]
            exact g k (by omega)
      · obtain ⟨K, g⟩ := ih (j + 1) Q (by omega) hQ (fun d hd => by
          rw [h d hd, htk]
          congr 1
          have e2 : ((d : Int) ∈ (next.getD i []).take j ++ [rd (next.getD i []) (j : Int)]) ↔ (d : Int) ∈ (next.getD i []).take j := by
            rw [List.mem_append, List.mem_singleton]
            exact ⟨fun h => h.resolve_right (by omega), Or.inl⟩
          by_cases e3 : (d : Int) ∈ (next.getD i []).take j
          · rw [if_pos e3, if_pos (e2.mpr e3)]
          · rw [if_neg e3, if_neg (fun h => e3 (e2.mp h))])
        simp only at g
        refine ⟨K + 1, fun k hk => ?_⟩
        obtain ⟨k, rfl⟩ : ∃ m, k = m + 1 := ⟨k - 1, by omega⟩
        simp only [flow_Preds.l1]
        rw [if_pos (by omega), if_pos (by omega), if_pos (by omega), wnext j (by omega)]
        by_cases h0 : rd (next.getD i []) (j : Int) ≥ 0
        · rw [if_pos h0, if_neg (by omega)]; exact g k (by omega)
        · rw [if_neg h0]; exact g k (by omega)
  have key : ∀ (r i : Nat) (Q : List (List Int)), i + r = next.length → Q.length = next.length → (∀ c, c < next.length → Q.getD c [] = prd next c i) → Ev (fun k => flow_Preds.l0 k next Q next (next.length : Int) (i : Int)) (prds next) := by
    intro r
    induction r with
    | zero =>
      intro i Q hi hQ h
      obtain rfl : i = next.length := by omega
      refine ⟨1, fun k hk => ?_⟩
      obtain ⟨k, rfl⟩ : ∃ m, k = m + 1 := ⟨k - 1, by omega⟩
      simp only [flow_Preds.l0]
      rw [if_neg (by omega), list_eq hQ h]
      rfl
    | succ r ih =>
      intro i Q hi hQ h
      obtain ⟨K, g⟩ := inner i (by omega) (fun Q hQ h => ih (i + 1) Q (by omega) hQ h) _ 0 Q (Nat.zero_add _) hQ (fun c hc => by rw [h c hc]; simp)
      simp only at g
      refine ⟨K + 1, fun k hk => ?_⟩
      obtain ⟨k, rfl⟩ : ∃ m, k = m + 1 := ⟨k - 1, by omega⟩
      simp only [flow_Preds.l0]
      rw [if_pos (by omega), if_pos (by omega), if_pos (by omega), rdL3_eq]
      exact g k (by omega)
  obtain ⟨K, g⟩ := key next.length 0 (List.replicate next.length []) (by omega) (by simp) (fun c hc => by simp [List.getD_eq_getElem?_getD, hc, prd])
  simp only at g
  refine ⟨K, fun k hk => ?_⟩
  simp only [flow_Preds.f]
  rw [if_pos (by omega), if_pos (by omega), Int.toNat_natCast]
  exact g k hk
theorem rpreds_ev {next : List (List Int)} (sh : Sh next) : Ev (fun k => ladderbackref30_Preds.f k next) (prds next) := by
  have hn := sh.len
  have inner : ∀ (c : Nat), c < next.length → (∀ Q : List (List Int), Q.length = next.length → (∀ d, d < c + 1 → Q.getD d [] = prd next d next.length) → (∀ d, c + 1 ≤ d → Q.getD d [] = []) → Ev (fun k => ladderbackref30_Preds.l0 k next Q ((c + 1 : Nat) : Int)) (prds next)) →
      ∀ (r i : Nat) (Q : List (List Int)), i + r = next.length → Q.length = next.length → (∀ d, d < c → Q.getD d [] = prd next d next.length) → Q.getD c [] = prd next c i → (∀ d, c + 1 ≤ d → Q.getD d [] = []) → Ev (fun k => ladderbackref30_Preds.l1 k next Q (c : Int) (i : Int)) (prds next) := by
    intro c hc hgo r
    induction r with
    | zero =>
      intro i Q hi hQ h1 h2 h3
      obtain rfl : i = next.length := by omega
      obtain ⟨K, g⟩ := hgo Q hQ (fun d hd => by
        by_cases e : d = c
        · subst e; exact h2
        · exact h1 d (by omega)) h3
      simp only at g
      refine ⟨K + 1, fun k hk => ?_⟩
      obtain ⟨k, rfl⟩ : ∃ m, k = m + 1 := ⟨k - 1, by omega⟩
      simp only [ladderbackref30_Preds.l1]
      rw [if_neg (by omega), wnext c (by omega)]
      exact g k (by omega)
    | succ r ih =>
      intro i Q hi hQ h1 h2 h3
      have hri := sh.row i
      have hpl := prd_len next c i
      obtain ⟨K2, g2⟩ := has_ev (next.getD i []) (c : Int) (by omega)
      simp only at g2
      by_cases hin : (c : Int) ∈ next.getD i []
      · obtain ⟨K, g⟩ := ih (i + 1) (Q.set c (prd next c i ++ [(i : Int)])) (by omega) (by rw [List.length_set]; exact hQ) (fun d hd => by
            rw [getDl_set _ _ _ _ (by omega), if_neg (by omega)]; exact h1 d hd) (by
            rw [getDl_set _ _ _ _ (by omega), if_pos rfl, prd_succ, if_pos hin]) (fun d hd => by
            rw [getDl_set _ _ _ _ (by omega), if_neg (by omega)]; exact h3 d hd)
        simp only at g
        refine ⟨max K K2 + 1, fun k hk => ?_⟩
        obtain ⟨k, rfl⟩ : ∃ m, k = m + 1 := ⟨k - 1, by omega⟩
        simp only [ladderbackref30_Preds.l1]
        rw [if_pos (by omega), if_pos (by omega), rdL3_eq, g2 k (by omega), decide_eq_true hin]
        simp only [Option.bind_some, if_true]
        rw [if_pos (by omega), if_pos (by omega), rdL3_eq, h2, if_pos (by omega), wnext i (by omega), Int.toNat_natCast]
        exact g k (by omega)
      · obtain ⟨K, g⟩ := ih (i + 1) Q (by omega) hQ h1 (by rw [h2, prd_succ, if_neg hin, List.append_nil]) h3
        simp only at g
        refine ⟨max K K2 + 1, fun k hk => ?_⟩
        obtain ⟨k, rfl⟩ : ∃ m, k = m + 1 := ⟨k - 1, by omega⟩
        simp only [ladderbackref30_Preds.l1]
        rw [if_pos (by omega), if_pos (by omega), rdL3_eq, g2 k (by omega), decide_eq_false hin]
        simp only [Option.bind_some, Bool.false_eq_true, if_false]
        rw [wnext i (by omega)]
        exact g k (by omega)
  have key : ∀ (r c : Nat) (Q : List (List Int)), c + r = next.length → Q.length = next.length → (∀ d, d < c → Q.getD d [] = prd next d next.length) → (∀ d, c ≤ d → Q.getD d [] = []) → Ev (fun k => ladderbackref30_Preds.l0 k next Q (c : Int)) (prds next) := by
    intro r
    induction r with
    | zero =>
      intro c Q hc hQ h1 h2
      obtain rfl : c = next.length := by omega
      refine ⟨1, fun k hk => ?_⟩
      obtain ⟨k, rfl⟩ : ∃ m, k = m + 1 := ⟨k - 1, by omega⟩
      simp only [ladderbackref30_Preds.l0]
      rw [if_neg (by omega), list_eq hQ h1]
      rfl
    | succ r ih =>
      intro c Q hc hQ h1 h2
      obtain ⟨K, g⟩ := inner c (by omega) (fun Q hQ h1 h2 => ih (c + 1) Q (by omega) hQ h1 h2) next.length 0 Q (by omega) hQ h1 (by rw [h2 c (Nat.le_refl _)]; rfl) (fun d hd => h2 d (by omega))
      simp only at g
      refine ⟨K + 1, fun k hk => ?_⟩
      obtain ⟨k, rfl⟩ : ∃ m, k = m + 1 := ⟨k - 1, by omega⟩
      simp only [ladderbackref30_Preds.l0]
      rw [if_pos (by omega)]
      exact g k (by omega)
  obtain ⟨K, g⟩ := key next.length 0 (List.replicate next.length []) (by omega) (by simp) (fun c hc => by omega) (fun d _ => by
    by_cases hd : d < next.length <;> simp [List.getD_eq_getElem?_getD, hd])
  simp only at g
  refine ⟨K, fun k hk => ?_⟩
  simp only [ladderbackref30_Preds.f]
  rw [if_pos (by omega), if_pos (by omega), Int.toNat_natCast]
  exact g k hk
end Go.Proofs.Ytfiffhcpgojkhaa.PchFlowBlocks
