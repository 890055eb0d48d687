/- flow.Preds: which rows have a place; plain. No condition but that the rows are short. -/
import Derived.Test.YtfiffhcpgojkhaaQInterPartsx
import Derived.Test.YtfiffhcpgojkhaaPdC
import Derived.Test.YtfiffhcpgojkhaaDomQ
import Derived.Test.YtfiffhcpgojkhaaIntU
import Derived.Test.YtfiffhcpgojkhaaDeriveInterParts
namespace Go.Proofs.Ytfiffhcpgojkhaa.PipInterParts
open Go.Proofs.Ytfiffhcpgojkhaa Go.Proofs.Ytfiffhcpgojkhaa.QInterParts Go.Proofs.Ytfiffhcpgojkhaa.PdC Go.RowKit Go.Proofs.YtfiffhcpgojkhaaW.PrintWords Go.Proofs.YtfiffhcpgojkhaaW.PrintLast Go.Proofs.YtfiffhcpgojkhaaW.PrintMore
set_option linter.unusedSimpArgs false
set_option linter.unusedVariables false
theorem rdL3_eq (xs : List (List Int)) (i : Nat) : rd_L1 xs (i : Int) = xs.getD i [] := by simp [rd_L1]
/-- The rows ahead of the n-th that have a place. -/
def prd (next : List (List Int)) (c n : Nat) : List Int := ((List.range n).filter fun j => decide ((c : Int) ∈ next.getD j [])).map fun j : Nat => (j : Int)
theorem prd_succ (next : List (List Int)) (c n : Nat) : prd next c (n + 1) = prd next c n ++ (if (c : Int) ∈ next.getD n [] then [(n : Int)] else []) := by
  unfold prd
  rw [List.range_succ, List.filter_append, List.map_append]
  congr 1
  by_cases h : (c : Int) ∈ next.getD n []
  · rw [if_pos h, List.filter_cons_of_pos (by simpa using h)]; rfl
  · rw [if_neg h, List.filter_cons_of_neg (by simpa using h)]; rfl
theorem prd_len (next : List (List Int)) (c n : Nat) : (prd next c n).length ≤ n := by
  unfold prd
  rw [List.length_map]
  refine Nat.le_trans (List.length_filter_le _ _) ?_
  simp
theorem prd_lt (next : List (List Int)) (c n : Nat) {x : Int} (h : x ∈ prd next c n) : x < (n : Int) := by
  unfold prd at h
  obtain ⟨j, hj, rfl⟩ := List.mem_map.mp h
  have := List.mem_range.mp (List.mem_filter.mp hj).1
  omega
theorem getDl_set (P : List (List Int)) (i j : Nat) (x : List Int) (hi : i < P.length) : (P.set i x).getD j [] = if j = i then x else P.getD j [] := by
  by_cases h : j = i
  · subst h; simp [List.getD_eq_getElem?_getD, hi]
  · rw [if_neg h]; simp [List.getD_eq_getElem?_getD, List.getElem?_set, Ne.symm h]
def prds (next : List (List Int)) : List (List Int) := (List.range next.length).map fun c => prd next c next.length
theorem list_eq {P : List (List Int)} {n : Nat} {f : Nat → List Int} (hl : P.length = n) (h : ∀ c, c < n → P.getD c [] = f c) : P = (List.range n).map f := by
  refine List.ext_getElem (by simp [hl]) fun i h1 h2 => ?_
  have := h i (by omega)
  simp only [List.getD_eq_getElem?_getD, h1, List.getElem?_eq_getElem, Option.getD_some] at this
  simp [this]
structure Sh (next : List (List Int)) : Prop where
  len : next.length ≤ 1000
  row : ∀ i, (next.getD i []).length ≤ 1000
theorem preds_ev {next : List (List Int)} (sh : Sh next) : Ev (fun k => flow_Preds.f k next) (prds next) := by
  have hn := sh.len
  have inner : ∀ (i : Nat), i < next.length → (∀ Q : List (List Int), Q.length = next.length → (∀ c, c < next.length → Q.getD c [] = prd next c (i + 1)) → Ev (fun k => flow_Preds.l0 k next Q next (next.length : Int) ((i + 1 : Nat) : Int)) (prds next)) →
      ∀ (r j : Nat) (Q : List (List Int)), j + r = (next.getD i []).length → Q.length = next.length → (∀ c, c < next.length → Q.getD c [] = prd next c i ++ (if (c : Int) ∈ (next.getD i []).take j then [(i : Int)] else [])) →
      Ev (fun k => flow_Preds.l1 k next Q (i : Int) next (next.length : Int) (i : Int) (next.getD i []) ((next.getD i []).length : Int) (j : Int)) (prds next) := by
    intro i hi hgo r
    have hri := sh.row i
    induction r with
    | zero =>
      intro j Q hj hQ h
      obtain rfl : j = (next.getD i []).length := by omega
      rw [List.take_length] at h
      obtain ⟨K, g⟩ := hgo Q hQ (fun c hc => by rw [h c hc, prd_succ])
      simp only at g
      refine ⟨K + 1, fun k hk => ?_⟩
      obtain ⟨k, rfl⟩ : ∃ m, k = m + 1 := ⟨k - 1, by omega⟩
      simp only [flow_Preds.l1]
      rw [if_neg (by omega), wnext i (by omega)]
      exact g k (by omega)
    | succ r ih =>
      intro j Q hj hQ h
      have htk := take_rd (next.getD i []) j (by omega)
      by_cases hc : 0 ≤ rd (next.getD i []) (j : Int) ∧ rd (next.getD i []) (j : Int) < (next.length : Int)
      · obtain ⟨c, hce⟩ : ∃ c : Nat, rd (next.getD i []) (j : Int) = (c : Int) := ⟨(rd (next.getD i []) (j : Int)).toNat, by omega⟩
        rw [hce] at hc htk
        have hcl : c < next.length := by omega
        have hQc := h c hcl
        have hpl := prd_len next c i
        by_cases hin : (c : Int) ∈ (next.getD i []).take j
        · rw [if_pos hin] at hQc
          obtain ⟨K, g⟩ := ih (j + 1) Q (by omega) hQ (fun d hd => by
            rw [h d hd, htk]
            congr 1
            by_cases e : d = c
            · subst e; rw [if_pos hin, if_pos (List.mem_append.mpr (Or.inl hin))]
            · have e2 : ((d : Int) ∈ (next.getD i []).take j ++ [(c : Int)]) ↔ (d : Int) ∈ (next.getD i []).take j := by
                rw [List.mem_append, List.mem_singleton]
                exact ⟨fun h => h.resolve_right (by omega), Or.inl⟩
              by_cases e3 : (d : Int) ∈ (next.getD i []).take j
              · rw [if_pos e3, if_pos (e2.mpr e3)]
              · rw [if_neg e3, if_neg (fun h => e3 (e2.mp h))])
          simp only at g
          have hlen : (prd next c i ++ [(i : Int)]).length = (prd next c i).length + 1 := by simp
          have ew : wrap64 (((prd next c i ++ [(i : Int)]).length : Int) - 1) = ((prd next c i).length : Int) := by rw [hlen, w64_of (by omega) (by omega)]; omega
          have er : rd (prd next c i ++ [(i : Int)]) ((prd next c i).length : Int) = (i : Int) := by simp [rd]
          refine ⟨K + 1, fun k hk => ?_⟩
          obtain ⟨k, rfl⟩ : ∃ m, k = m + 1 := ⟨k - 1, by omega⟩
          simp only [flow_Preds.l1]
          rw [if_pos (by omega), if_pos (by omega), if_pos (by omega), hce, if_pos (by omega), if_pos (by omega), if_pos (by omega), if_pos (by omega), rdL3_eq, hQc, if_neg (by omega), ew, if_pos (by omega), if_pos (by omega), er, if_pos rfl, wnext j (by omega)]
          exact g k (by omega)
        · rw [if_neg hin, List.append_nil] at hQc
          obtain ⟨K, g⟩ := ih (j + 1) (Q.set c (prd next c i ++ [(i : Int)])) (by omega) (by rw [List.length_set]; exact hQ) (fun d hd => by
            rw [getDl_set _ _ _ _ (by omega), htk]
            by_cases e : d = c
            · subst e; rw [if_pos rfl, if_pos (by simp)]
            · rw [if_neg e, h d hd]
              congr 1
              have e2 : ((d : Int) ∈ (next.getD i []).take j ++ [(c : Int)]) ↔ (d : Int) ∈ (next.getD i []).take j := by
                rw [List.mem_append, List.mem_singleton]
                exact ⟨fun h => h.resolve_right (by omega), Or.inl⟩
              by_cases e3 : (d : Int) ∈ (next.getD i []).take j
              · rw [if_pos e3, if_pos (e2.mpr e3)]
              · rw [if_neg e3, if_neg (fun h => e3 (e2.mp h))])
          simp only at g
          refine ⟨K + 1, fun k hk => ?_⟩
          obtain ⟨k, rfl⟩ : ∃ m, k = m + 1 := ⟨k - 1, by omega⟩
          simp only [flow_Preds.l1]
          rw [if_pos (by omega), if_pos (by omega), if_pos (by omega), hce, if_pos (by omega), if_pos (by omega), if_pos (by omega), if_pos (by omega), rdL3_eq, hQc, Int.toNat_natCast, wnext j (by omega)]
          by_cases h0 : ((prd next c i).length : Int) = 0
          · rw [if_pos h0, if_pos (by omega)]
            exact g k (by omega)
          · rw [if_neg h0]
            have ew : wrap64 (((prd next c i).length : Int) - 1) = (((prd next c i).length - 1 : Nat) : Int) := by rw [w64_of (by omega) (by omega)]; omega
            have hne : ¬ rd (prd next c i) (((prd next c i).length - 1 : Nat) : Int) = (i : Int) := by
              have := prd_lt next c i (rd_mem (prd next c i) ((prd next c i).length - 1) (by omega))
              omega
            rw [ew, if_pos (by omega), if_pos (by omega), if_neg hne, if_pos (by omega)]
            exact g k (by omega)
      · obtain ⟨K, g⟩ := ih (j + 1) Q (by omega) hQ (fun d hd => by
          rw [h d hd, htk]
          congr 1
          have e2 : ((d : Int) ∈ (next.getD i []).take j ++ [rd (next.getD i []) (j : Int)]) ↔ (d : Int) ∈ (next.getD i []).take j := by
            rw [List.mem_append, List.mem_singleton]
            exact ⟨fun h => h.resolve_right (by omega), Or.inl⟩
          by_cases e3 : (d : Int) ∈ (next.getD i []).take j
          · rw [if_pos e3, if_pos (e2.mpr e3)]
          · rw [if_neg e3, if_neg (fun h => e3 (e2.mp h))])
        simp only at g
        refine ⟨K + 1, fun k hk => ?_⟩
        obtain ⟨k, rfl⟩ : ∃ m, k = m + 1 := ⟨k - 1, by omega⟩
        simp only [flow_Preds.l1]
        rw [if_pos (by omega), if_pos (by omega), if_pos (by omega), wnext j (by omega)]
        by_cases h0 : rd (next.getD i []) (j : Int) ≥ 0
        · rw [if_pos h0, if_neg (by omega)]; exact g k (by omega)
        · rw [if_neg h0]; exact g k (by omega)
  have key : ∀ (r i : Nat) (Q : List (List Int)), i + r = next.length → Q.length = next.length → (∀ c, c < next.length → Q.getD c [] = prd next c i) → Ev (fun k => flow_Preds.l0 k next Q next (next.length : Int) (i : Int)) (prds next) := by
    intro r
    induction r with
    | zero =>
      intro i Q hi hQ h
      obtain rfl : i = next.length := by omega
      refine ⟨1, fun k hk => ?_⟩
      obtain ⟨k, rfl⟩ : ∃ m, k = m + 1 := ⟨k - 1, by omega⟩
      simp only [flow_Preds.l0]
      rw [if_neg (by omega), list_eq hQ h]
      rfl
    | succ r ih =>
      intro i Q hi hQ h
      obtain ⟨K, g⟩ := inner i (by omega) (fun Q hQ h => ih (i + 1) Q (by omega) hQ h) _ 0 Q (Nat.zero_add _) hQ (fun c hc => by rw [h c hc]; simp)
      simp only at g
      refine ⟨K + 1, fun k hk => ?_⟩
      obtain ⟨k, rfl⟩ : ∃ m, k = m + 1 := ⟨k - 1, by omega⟩
      simp only [flow_Preds.l0]
      rw [if_pos (by omega), if_pos (by omega), if_pos (by omega), rdL3_eq]
      exact g k (by omega)
  obtain ⟨K, g⟩ := key next.length 0 (List.replicate next.length []) (by omega) (by simp) (fun c hc => by simp [List.getD_eq_getElem?_getD, hc, prd])
  simp only at g
  refine ⟨K, fun k hk => ?_⟩
  simp only [flow_Preds.f]
  rw [if_pos (by omega), if_pos (by omega), Int.toNat_natCast]
  exact g k hk
end Go.Proofs.Ytfiffhcpgojkhaa.PipInterParts
/- inter.know: the graph of what is reached; plain. No condition but that the graph is small. -/
namespace Go.Proofs.Ytfiffhcpgojkhaa.PikInterParts
open Go.Proofs.Ytfiffhcpgojkhaa Go.Proofs.Ytfiffhcpgojkhaa.QInterParts Go.Proofs.Ytfiffhcpgojkhaa.PdB Go.Proofs.Ytfiffhcpgojkhaa.PipInterParts Go.Proofs.Ytfiffhcpgojkhaa.DomA Go.Proofs.Ytfiffhcpgojkhaa.DomF Go.Proofs.Ytfiffhcpgojkhaa.DomT Go.Proofs.Ytfiffhcpgojkhaa.DomP Go.Proofs.Ytfiffhcpgojkhaa.IntT Go.RowKit Go.Proofs.YtfiffhcpgojkhaaW.PrintWords Go.Proofs.YtfiffhcpgojkhaaW.PrintLast Go.Proofs.YtfiffhcpgojkhaaW.PrintMore
set_option linter.unusedSimpArgs false
set_option linter.unusedVariables false
theorem rdL1_eq (xs : List (List Int)) (i : Nat) : rd_L1 xs (i : Int) = xs.getD i [] := by simp [rd_L1]
/-- What know tells. -/
structure Kw (next kn pd : List (List Int)) (rc : List Bool) : Prop where
  kl : kn.length = next.length
  rl : rc.length = next.length
  kr : ∀ i, Rch next i → kn.getD i [] = next.getD i []
  k0 : ∀ i, ¬ Rch next i → kn.getD i [] = []
  rr : ∀ i, rc.getD i false = true ↔ Rch next i
  pd : pd = prds kn
theorem getDb_set (M : List Bool) (i j : Nat) (b : Bool) (hi : i < M.length) : (M.set i b).getD j false = if j = i then b else M.getD j false := by
  by_cases h : j = i
  · subst h; simp [List.getD_eq_getElem?_getD, hi]
  · rw [if_neg h]; simp [List.getD_eq_getElem?_getD, List.getElem?_set, Ne.symm h]
theorem know_ev (next : List (List Int)) (sm : Small next) : ∃ kn pd rc, Kw next kn pd rc ∧ Ev (fun k => inter_know.f k next) (kn, pd, rc) := by
  have hl := sm.1
  have hord : ∃ T : List Nat, dom_Order.f next = some (T.map fun v : Nat => (v : Int)) ∧ (∀ v, v ∈ T ↔ Rch next v) ∧ T.length ≤ 1000 := by
    by_cases h0 : next.length = 0
    · obtain rfl : next = [] := List.eq_nil_of_length_eq_zero h0
      refine ⟨[], ?_, fun v => ⟨fun h => (by cases h), fun h => absurd (Rch.lt h) (by simp)⟩, Nat.zero_le _⟩
      rfl
    · obtain ⟨T, o, e⟩ := order_some next sm (by omega)
      refine ⟨0 :: T, e, o.mem, ?_⟩
      have := nodup_len next.length (0 :: T) o.nd fun v hv => Rch.lt ((o.mem v).mp hv)
      omega
  obtain ⟨T, eT, hT, hTl⟩ := hord
  have key : ∀ r j : Nat, ∀ (kn : List (List Int)) (rc : List Bool), j + r = T.length → kn.length = next.length → rc.length = next.length → (∀ i, kn.getD i [] = if i ∈ T.take j then next.getD i [] else []) → (∀ i, rc.getD i false = true ↔ i ∈ T.take j) →
      ∃ kn2 pd rc2, Kw next kn2 pd rc2 ∧ Ev (fun k => inter_know.l0 k next (T.map fun v : Nat => (v : Int)) (T.length : Int) (j : Int) kn rc) (kn2, pd, rc2) := by
    intro r
    induction r with
    | zero =>
      intro j kn rc hj h1 h2 h3 h4
      rw [List.take_of_length_le (by omega)] at h3 h4
      have hr : ∀ i, (kn.getD i []).length ≤ 1000 := fun i => by
        rw [h3]
        split
        · exact sm.2 i
        · simp
      obtain ⟨K, g⟩ := preds_ev (next := kn) ⟨by omega, hr⟩
      simp only at g
      refine ⟨kn, prds kn, rc, ⟨h1, h2, fun i hi => by rw [h3, if_pos ((hT i).mpr hi)], fun i hi => by rw [h3, if_neg (fun h => hi ((hT i).mp h))], fun i => (h4 i).trans (hT i), rfl⟩, ⟨K + 1, fun k hk => ?_⟩⟩
      obtain ⟨k, rfl⟩ : ∃ m, k = m + 1 := ⟨k - 1, by omega⟩
      simp only [inter_know.l0]
      rw [if_neg (by omega), g k (by omega)]
      rfl
    | succ r ih =>
      intro j kn rc hj h1 h2 h3 h4
      have hjT : j < T.length := by omega
      have hvR := (hT T[j]).mp (List.getElem_mem hjT)
      have hvl := Rch.lt hvR
      have hrd : rd (T.map fun v : Nat => (v : Int)) (j : Int) = ((T[j] : Nat) : Int) := by simp [rd, hjT]
      have htk : T.take (j + 1) = T.take j ++ [T[j]] := by rw [List.take_add_one]; simp [hjT]
      obtain ⟨kn2, pd, rc2, h5, ⟨K, g⟩⟩ := ih (j + 1) (kn.set T[j] (next.getD T[j] [])) (rc.set T[j] true) (by omega) (by rw [List.length_set, h1]) (by rw [List.length_set, h2])
        (fun i => by
          rw [PipInterParts.getDl_set _ _ _ _ (by omega), h3, htk]
          by_cases e : i = T[j]
          · rw [if_pos e, if_pos (by rw [e]; exact List.mem_append_right _ (List.mem_singleton.mpr rfl)), e]
          · rw [if_neg e]
            by_cases e2 : i ∈ T.take j
            · rw [if_pos e2, if_pos (List.mem_append_left _ e2)]
            · rw [if_neg e2, if_neg (by simp only [List.mem_append, List.mem_singleton]; exact fun h => h.elim e2 e)])
        (fun i => by
          rw [getDb_set _ _ _ _ (by omega), htk]
          by_cases e : i = T[j]
          · rw [if_pos e, e]; exact ⟨fun _ => List.mem_append_right _ (List.mem_singleton.mpr rfl), fun _ => rfl⟩
          · rw [if_neg e, h4]
            simp only [List.mem_append, List.mem_singleton]
            exact ⟨.inl, fun h => h.elim id (fun h => absurd h e)⟩)
      simp only at g
      refine ⟨kn2, pd, rc2, h5, ⟨K + 1, fun k hk => ?_⟩⟩
      obtain ⟨k, rfl⟩ : ∃ m, k = m + 1 := ⟨k - 1, by omega⟩
      simp only [inter_know.l0]
      rw [if_pos (by omega), if_pos (by omega), if_pos (by rw [List.length_map]; omega), hrd, if_pos (by omega), if_pos (by omega), if_pos (by omega), if_pos (by omega), wnext j (by omega), Int.toNat_natCast, rdL1_eq]
      exact g k (by omega)
  obtain ⟨kn, pd, rc, h1, ⟨K, g⟩⟩ := key T.length 0 (List.replicate next.length []) (List.replicate next.length false) (by omega) (by simp) (by simp) (fun i => by
    by_cases h : i < next.length <;> simp [List.getD_eq_getElem?_getD, h]) (fun i => by
    by_cases h : i < next.length <;> simp [List.getD_eq_getElem?_getD, h])
  simp only at g
  refine ⟨kn, pd, rc, h1, ⟨K, fun k hk => ?_⟩⟩
  simp only [inter_know.f]
  rw [if_pos (by omega), if_pos (by omega), if_pos (by omega), eT]
  simp only [Option.bind_some, Int.toNat_natCast, List.length_map]
  exact g k hk
/-- The graph in words. -/
theorem graph (next : List (List Int)) (hn : 0 < next.length) : G (Rch next) (pre next) where
  r0 := .root hn
  preL := fun p j h => h.1
  preR := fun p j h => .step h.1 h.2
  rch := by
    intro P h0 hs x hx
    have key : Rch next x ∧ P x := by
      induction hx with
      | root h => exact ⟨.root h, h0⟩
      | step h he ih => exact ⟨.step h he, hs _ _ ih.2 ⟨h, he⟩⟩
    exact key.2
/-- What is known of the places ahead of a place. -/
theorem Kw.any {next kn pd : List (List Int)} {rc : List Bool} (h : Kw next kn pd rc) (i : Nat) (hi : i < next.length) (q : Int → Bool) : ((rdR pd (i : Int)).any q) = true ↔ ∃ p, pre next p i ∧ q (p : Int) = true := by
  have e : rdR pd (i : Int) = prd kn i kn.length := by
    rw [h.pd]
    unfold rdR prds
    rw [Int.toNat_natCast, List.getD_eq_getElem?_getD, List.getElem?_map, List.getElem?_range (by rw [h.kl]; exact hi)]
    rfl
  rw [e, List.any_eq_true]
  unfold prd
  have hpre : ∀ j, j < kn.length → ((i : Int) ∈ kn.getD j [] ↔ pre next j i) := by
    intro j hj
    by_cases hR : Rch next j
    · rw [h.kr j hR]
      exact ⟨fun hm => ⟨hR, hm, hi⟩, fun hp => hp.2.1⟩
    · rw [h.k0 j hR]
      exact ⟨fun hm => (by cases hm), fun hp => absurd hp.1 hR⟩
  constructor
  · rintro ⟨x, hx, hq⟩
    obtain ⟨j, hj, rfl⟩ := List.mem_map.mp hx
    obtain ⟨h1, h2⟩ := List.mem_filter.mp hj
    have h3 := List.mem_range.mp h1
    exact ⟨j, (hpre j h3).mp (of_decide_eq_true h2), hq⟩
  · rintro ⟨p, hp, hq⟩
    have hpl : p < kn.length := by rw [h.kl]; exact Rch.lt hp.1
    exact ⟨(p : Int), List.mem_map.mpr ⟨p, List.mem_filter.mpr ⟨List.mem_range.mpr hpl, decide_eq_true ((hpre p hpl).mpr hp)⟩, rfl⟩, hq⟩
theorem Kw.rows {next kn pd : List (List Int)} {rc : List Bool} (h : Kw next kn pd rc) (hn : next.length ≤ 1000) : pd.length = kn.length ∧ rowsIn pd kn.length = true := by
  rw [h.pd]
  refine ⟨by simp [prds], List.all_eq_true.mpr fun c hc => ?_⟩
  unfold prds at hc
  obtain ⟨i, hi, rfl⟩ := List.mem_map.mp hc
  have h1 := prd_len kn i kn.length
  have h2 := h.kl
  rw [Bool.and_eq_true]
  refine ⟨decide_eq_true (by omega), List.all_eq_true.mpr fun x hx => ?_⟩
  have h3 := prd_lt kn i kn.length hx
  unfold prd at hx
  obtain ⟨j, hj, rfl⟩ := List.mem_map.mp hx
  rw [Bool.and_eq_true]
  exact ⟨decide_eq_true (by omega), decide_eq_true h3⟩
end Go.Proofs.Ytfiffhcpgojkhaa.PikInterParts
/- inter's intervals: the program makes the document's intervals, one behind the other; plain. No condition but that the graph is small. -/
namespace Go.Proofs.Ytfiffhcpgojkhaa.PitInterParts
open Go.Proofs.Ytfiffhcpgojkhaa Go.Proofs.Ytfiffhcpgojkhaa.QInterParts Go.Proofs.Ytfiffhcpgojkhaa.PdB Go.Proofs.Ytfiffhcpgojkhaa.PikInterParts Go.Proofs.Ytfiffhcpgojkhaa.DomF Go.Proofs.Ytfiffhcpgojkhaa.DomT Go.Proofs.Ytfiffhcpgojkhaa.DomP Go.Proofs.Ytfiffhcpgojkhaa.IntT Go.Proofs.Ytfiffhcpgojkhaa.IntU Go.RowKit Go.Proofs.YtfiffhcpgojkhaaW.PrintWords Go.Proofs.YtfiffhcpgojkhaaW.PrintLast Go.Proofs.YtfiffhcpgojkhaaW.PrintMore
set_option linter.unusedSimpArgs false
set_option linter.unusedVariables false
theorem rd_nat (l : List Int) (i : Nat) : rd l (i : Int) = l.getD i 0 := by simp [rd]
theorem rdb_nat (l : List Bool) (i : Nat) : rdOf false l (i : Int) = l.getD i false := by simp [rdOf]
theorem getI_set (l : List Int) (i j : Nat) (v : Int) (hi : i < l.length) : (l.set i v).getD j 0 = if j = i then v else l.getD j 0 := by
  by_cases h : j = i
  · subst h; simp [List.getD_eq_getElem?_getD, hi]
  · rw [if_neg h]; simp [List.getD_eq_getElem?_getD, List.getElem?_set, Ne.symm h]
/-- How many are in none. -/
def cneg (l : List Int) : Nat := l.countP fun x => decide (x < 0)
theorem cneg_set : ∀ (l : List Int) (i : Nat) (v : Int), i < l.length → l.getD i 0 < 0 → 0 ≤ v → cneg (l.set i v) + 1 = cneg l := by
  intro l
  induction l with
  | nil => intro i v hi; simp at hi
  | cons x l ih =>
    intro i v hi h hv
    cases i with
    | zero =>
      have hx : x < 0 := by simpa using h
      unfold cneg
      rw [List.set_cons_zero, List.countP_cons_of_neg (by simp; omega), List.countP_cons_of_pos (by simpa using hx)]
    | succ i =>
      have h2 := ih i v (by simpa using hi) (by simpa using h) hv
      unfold cneg at h2 ⊢
      rw [List.set_cons_succ, List.countP_cons, List.countP_cons]
      omega
theorem cneg_le (l : List Int) : cneg l ≤ l.length := List.countP_le_length
section
variable {next kn pd : List (List Int)} {rc : List Bool}
/-- of tells where each place is. -/
structure OfL (n : Nat) (L : List (List Nat)) (of : List Int) : Prop where
  len : of.length = n
  yes : ∀ a i, a < L.length → i ∈ L.getD a [] → of.getD i 0 = (a : Int)
  no : ∀ i, i < n → ¬ Tk L i → of.getD i 0 = -1
  lim : ∀ a i, a < L.length → i ∈ L.getD a [] → i < n
theorem OfL.neg {n : Nat} {L : List (List Nat)} {of : List Int} (o : OfL n L of) {i : Nat} (hi : i < n) : of.getD i 0 < 0 ↔ ¬ Tk L i := by
  constructor
  · intro h ht
    obtain ⟨a, ha, hm⟩ := Tk_get.mp ht
    have := o.yes a i ha hm
    omega
  · intro h; rw [o.no i hi h]; decide
theorem OfL.lt {n : Nat} {L : List (List Nat)} {of : List Int} (o : OfL n L of) {i : Nat} (hi : i < n) : of.getD i 0 < (L.length : Int) := by
  by_cases h : Tk L i
  · obtain ⟨a, ha, hm⟩ := Tk_get.mp h
    rw [o.yes a i ha hm]; omega
  · rw [o.no i hi h]; omega
/-- What is kept in an interval's passes. -/
structure PI (next : List (List Int)) (L : List (List Nat)) (h : Nat) (of0 of rest : List Int) : Prop where
  len : of.length = next.length
  hd : of.getD h 0 = (L.length : Int)
  snd : ∀ i, i < next.length → of.getD i 0 = (L.length : Int) → In (Rch next) (pre next) (Tk L) h i
  oth : ∀ i, i < next.length → of.getD i 0 ≠ (L.length : Int) → of.getD i 0 = of0.getD i 0
  kpt : ∀ i, i < next.length → 0 ≤ of0.getD i 0 → of.getD i 0 = of0.getD i 0
  rst : ∀ x : Int, x ∈ rest ↔ ∃ i : Nat, i < next.length ∧ x = (i : Int) ∧ i ≠ h ∧ of.getD i 0 = (L.length : Int)
  nd : rest.Nodup
theorem pass_spec (kw : Kw next kn pd rc) {L : List (List Nat)} {h : Nat} {of0 : List Int} (o : OfL next.length L of0) :
    ∀ (r i : Nat) (of rest : List Int) (more : Bool), i + r = next.length → PI next L h of0 of rest →
      PI next L h of0 (passF pd rc (L.length : Int) r i of rest more).1 (passF pd rc (L.length : Int) r i of rest more).2.1 ∧
      cneg (passF pd rc (L.length : Int) r i of rest more).1 + (passF pd rc (L.length : Int) r i of rest more).2.1.length = cneg of + rest.length ∧
      rest.length ≤ (passF pd rc (L.length : Int) r i of rest more).2.1.length ∧
      ((passF pd rc (L.length : Int) r i of rest more).2.2 = true → more = true ∨ rest.length < (passF pd rc (L.length : Int) r i of rest more).2.1.length) ∧
      ((passF pd rc (L.length : Int) r i of rest more).2.2 = false → (passF pd rc (L.length : Int) r i of rest more).1 = of ∧ (passF pd rc (L.length : Int) r i of rest more).2.1 = rest ∧ ∀ j, i ≤ j → j < next.length → j ≠ 0 → Rch next j → of.getD j 0 < 0 → ∃ p, pre next p j ∧ p ≠ j ∧ of.getD p 0 ≠ (L.length : Int)) := by
  intro r
  induction r with
  | zero =>
    intro i of rest more hi p
    exact ⟨p, rfl, Nat.le_refl _, fun h => .inl h, fun _ => ⟨rfl, rfl, fun j h1 h2 => by omega⟩⟩
  | succ r ih =>
    intro i of rest more hi p
    have hil : i < next.length := by omega
    simp only [passF, rd_nat, rdb_nat]
    by_cases c1 : i = 0 ∨ of.getD i 0 ≥ 0 ∨ rc.getD i false = false
    · rw [if_pos c1]
      obtain ⟨a1, a2, a3, a4, a5⟩ := ih (i + 1) of rest more (by omega) p
      refine ⟨a1, a2, a3, a4, fun hf => ?_⟩
      obtain ⟨b1, b2, b3⟩ := a5 hf
      refine ⟨b1, b2, fun j h1 h2 h3 h4 h5 => ?_⟩
      by_cases e : j = i
      · subst e
        rcases c1 with c | c | c
        · exact absurd c h3
        · omega
        · rw [(kw.rr j).mpr h4] at c; cases c
      · exact b3 j (by omega) h2 h3 h4 h5
    · rw [if_neg c1]
      have hi0 : i ≠ 0 := fun e => c1 (.inl e)
      have hin : of.getD i 0 < 0 := by
        by_cases e : of.getD i 0 ≥ 0
        · exact absurd (.inr (.inl e)) c1
        · omega
      have hiR : Rch next i := (kw.rr i).mp (by
        cases e : rc.getD i false with
        | true => rfl
        | false => exact absurd (.inr (.inr e)) c1)
      have hany := kw.any i hil fun q => decide (q ≠ (i : Int) ∧ rd of q ≠ (L.length : Int))
      by_cases c2 : ((rdR pd (i : Int)).any fun q => decide (q ≠ (i : Int) ∧ rd of q ≠ (L.length : Int))) = true
      · rw [if_pos c2]
        obtain ⟨a1, a2, a3, a4, a5⟩ := ih (i + 1) of rest more (by omega) p
        refine ⟨a1, a2, a3, a4, fun hf => ?_⟩
        obtain ⟨b1, b2, b3⟩ := a5 hf
        refine ⟨b1, b2, fun j h1 h2 h3 h4 h5 => ?_⟩
        by_cases e : j = i
        · subst e
          obtain ⟨q, hq, hd⟩ := hany.mp c2
          have hd := of_decide_eq_true hd
          rw [rd_nat] at hd
          exact ⟨q, hq, fun e => hd.1 (by rw [e]), hd.2⟩
        · exact b3 j (by omega) h2 h3 h4 h5
      · rw [if_neg c2]
        have hall : ∀ q, pre next q i → q ≠ i → of.getD q 0 = (L.length : Int) := by
          intro q hq hne
          refine Classical.byContradiction fun hv => c2 (hany.mpr ⟨q, hq, decide_eq_true ⟨fun e => hne (by omega), ?_⟩⟩)
          rw [rd_nat]; exact hv
        have hil2 : i < of.length := by rw [p.len]; exact hil
        have hnm : of.getD i 0 ≠ (L.length : Int) := by omega
        have hntk : ¬ Tk L i := (o.neg hil).mp (by rw [← p.oth i hil hnm]; exact hin)
        have hIn : In (Rch next) (pre next) (Tk L) h i := In.closed (n := next.length) (fun q j hq => Rch.lt hq.1) hi0 hiR hntk fun q hq hne => p.snd q (Rch.lt hq.1) (hall q hq hne)
        have hih : i ≠ h := fun e => by have := p.hd; rw [← e] at this; omega
        have p2 : PI next L h of0 (of.set i (L.length : Int)) (rest ++ [(i : Int)]) := by
          refine ⟨by rw [List.length_set]; exact p.len, ?_, ?_, ?_, ?_, ?_, ?_⟩
          · rw [getI_set _ _ _ _ hil2, if_neg (Ne.symm hih)]; exact p.hd
          · intro j hj he
            rw [getI_set _ _ _ _ hil2] at he
            by_cases e : j = i
            · rw [e]; exact hIn
            · rw [if_neg e] at he; exact p.snd j hj he
          · intro j hj he
            rw [getI_set _ _ _ _ hil2] at he ⊢
            by_cases e : j = i
            · rw [if_pos e] at he; exact absurd rfl he
            · rw [if_neg e] at he ⊢; exact p.oth j hj he
          · intro j hj he
            rw [getI_set _ _ _ _ hil2]
            by_cases e : j = i
            · exfalso
              rw [e] at he
              have := p.kpt i hil he
              omega
            · rw [if_neg e]; exact p.kpt j hj he
          · intro x
            rw [List.mem_append, List.mem_singleton, p.rst]
            constructor
            · rintro (⟨j, h1, h2, h3, h4⟩ | hx)
              · refine ⟨j, h1, h2, h3, ?_⟩
                rw [getI_set _ _ _ _ hil2]
                split
                · rfl
                · exact h4
              · exact ⟨i, hil, hx, hih, by rw [getI_set _ _ _ _ hil2, if_pos rfl]⟩
            · rintro ⟨j, h1, h2, h3, h4⟩
              rw [getI_set _ _ _ _ hil2] at h4
              by_cases e : j = i
              · exact .inr (by rw [h2, e])
              · rw [if_neg e] at h4; exact .inl ⟨j, h1, h2, h3, h4⟩
          · refine List.nodup_append.mpr ⟨p.nd, by simp, ?_⟩
            intro x hx y hy e
            rw [List.mem_singleton] at hy
            subst hy
            subst e
            obtain ⟨j, _, h2, _, h4⟩ := (p.rst _).mp hx
            have : i = j := by omega
            subst this
            exact hnm h4
        obtain ⟨a1, a2, a3, a4, a5⟩ := ih (i + 1) _ _ true (by omega) p2
        have hc := cneg_set of i (L.length : Int) hil2 hin (by omega)
        rw [List.length_append, List.length_singleton] at a2 a3
        refine ⟨a1, by omega, by omega, fun _ => .inr (by omega), fun hf => ?_⟩
        obtain ⟨b1, b2, _⟩ := a5 hf
        exfalso
        have : ∀ (r i : Nat) (of rest : List Int), (passF pd rc (L.length : Int) r i of rest true).2.2 = true := by
          intro r
          induction r with
          | zero => intro i of rest; rfl
          | succ r ih => intro i of rest; simp only [passF]; split; exact ih _ _ _; split; exact ih _ _ _; exact ih _ _ _
        rw [this] at hf
        cases hf
/-- Passes until none is added. -/
theorem rounds_spec (kw : Kw next kn pd rc) (hn : next.length ≤ 1000) {L : List (List Nat)} {h : Nat} {of0 : List Int} (o : OfL next.length L of0) :
    ∀ (c : Nat) (of rest : List Int), cneg of ≤ c → cneg of + rest.length ≤ next.length → PI next L h of0 of rest →
      ∃ ofR reR, (∀ k, c + 1 ≤ k → roundsF pd rc (L.length : Int) next.length k of rest = some (ofR, reR)) ∧ PI next L h of0 ofR reR ∧ cneg ofR + reR.length = cneg of + rest.length ∧
        ∀ j, j < next.length → j ≠ 0 → Rch next j → ofR.getD j 0 < 0 → ∃ p, pre next p j ∧ p ≠ j ∧ ofR.getD p 0 ≠ (L.length : Int) := by
  intro c
  induction c with
  | zero =>
    intro of rest hc hr p
    obtain ⟨a1, a2, a3, a4, a5⟩ := pass_spec kw o next.length 0 of rest false (by omega) p
    cases hm : (passF pd rc (L.length : Int) next.length 0 of rest false).2.2 with
    | true =>
      rcases a4 hm with h | h
      · cases h
      · omega
    | false =>
      obtain ⟨b1, b2, b3⟩ := a5 hm
      refine ⟨of, rest, fun k hk => ?_, p, rfl, fun j h1 => b3 j (Nat.zero_le _) h1⟩
      obtain ⟨k, rfl⟩ : ∃ m, k = m + 1 := ⟨k - 1, by omega⟩
      rw [roundsF, if_pos (by omega), if_neg (by rw [hm]; decide), b1, b2]
  | succ c ih =>
    intro of rest hc hr p
    obtain ⟨a1, a2, a3, a4, a5⟩ := pass_spec kw o next.length 0 of rest false (by omega) p
    cases hm : (passF pd rc (L.length : Int) next.length 0 of rest false).2.2 with
    | true =>
      rcases a4 hm with h | h
      · cases h
      · obtain ⟨ofR, reR, h1, h2, h3, h4⟩ := ih _ _ (by omega) (by omega) a1
        refine ⟨ofR, reR, fun k hk => ?_, h2, by omega, h4⟩
        obtain ⟨k, rfl⟩ : ∃ m, k = m + 1 := ⟨k - 1, by omega⟩
        rw [roundsF, if_pos (by omega), if_pos hm]
        exact h1 k (by omega)
    | false =>
      obtain ⟨b1, b2, b3⟩ := a5 hm
      refine ⟨of, rest, fun k hk => ?_, p, rfl, fun j h1 => b3 j (Nat.zero_le _) h1⟩
      obtain ⟨k, rfl⟩ : ∃ m, k = m + 1 := ⟨k - 1, by omega⟩
      rw [roundsF, if_pos (by omega), if_neg (by rw [hm]; decide), b1, b2]
/-- A list of places as the program has it. -/
def toI (l : List Nat) : List Int := l.map fun x : Nat => (x : Int)
theorem toI_rise (n : Nat) (q : Nat → Bool) : (toI ((List.range n).filter q)).Pairwise (· < ·) := by
  unfold toI
  rw [List.pairwise_map]
  refine List.Pairwise.filter _ (List.Pairwise.imp (fun {a b} h => by omega) (List.pairwise_lt_range (n := n)))
theorem rise_eq2 {l m : List Int} (hl : l.Pairwise (· < ·)) (hm : m.Pairwise (· < ·)) (h : ∀ x, x ∈ l ↔ x ∈ m) : l = m := PdC.rise_eq l m hl hm h
theorem srt_rise {l : List Int} (h : l.Nodup) : (l.mergeSort fun x y => decide (x ≤ y)).Pairwise (· < ·) := by
  have h1 := PdC.srt l
  have h2 : (l.mergeSort fun x y => decide (x ≤ y)).Nodup := (List.mergeSort_perm l _).nodup_iff.mpr h
  exact List.Pairwise.imp₂ (fun a b h3 h4 => by have h5 : a ≠ b := h4; omega) h1 h2
open Classical in
/-- An interval. -/
theorem interval_spec (kw : Kw next kn pd rc) (hn : next.length ≤ 1000) {L : List (List Nat)} {h : Nat} {of : List Int} (o : OfL next.length L of) (hh : h < next.length) (hnt : ¬ Tk L h) :
    ∃ of2, (∀ k, next.length + 1 ≤ k → inter_known_interval.f k kn pd rc (h : Int) (L.length : Int) of = some (toI (ivl next.length (Rch next) (pre next) (Tk L) h), of2)) ∧ OfL next.length (L ++ [ivl next.length (Rch next) (pre next) (Tk L) h]) of2 ∧ cneg of2 < cneg of := by
  have hlo := o.len
  have hneg := (o.neg hh).mpr hnt
  have hp : PI next L h of (of.set h (L.length : Int)) [] := by
    refine ⟨by rw [List.length_set]; exact hlo, by rw [getI_set _ _ _ _ (by omega), if_pos rfl], ?_, ?_, ?_, ?_, List.nodup_nil⟩
    · intro i hi he
      rw [getI_set _ _ _ _ (by omega)] at he
      by_cases e : i = h
      · exact ⟨0, e⟩
      · rw [if_neg e] at he
        have := o.lt hi
        omega
    · intro i hi he
      rw [getI_set _ _ _ _ (by omega)] at he ⊢
      by_cases e : i = h
      · rw [if_pos e] at he; exact absurd rfl he
      · rw [if_neg e]
    · intro i hi he
      rw [getI_set _ _ _ _ (by omega)]
      by_cases e : i = h
      · rw [e] at he; omega
      · rw [if_neg e]
    · intro x
      constructor
      · intro hx; cases hx
      · rintro ⟨i, hi, _, hne, he⟩
        rw [getI_set _ _ _ _ (by omega), if_neg hne] at he
        have := o.lt hi
        omega
  have hc := cneg_set of h (L.length : Int) (by omega) hneg (by omega)
  have hcl := cneg_le of
  obtain ⟨ofR, reR, g, p, hcr, hcl2⟩ := rounds_spec kw hn o next.length (of.set h (L.length : Int)) [] (by omega) (by simp only [List.length_nil]; omega) hp
  have hIn : ∀ x, x < next.length → (In (Rch next) (pre next) (Tk L) h x ↔ ofR.getD x 0 = (L.length : Int)) := by
    intro x hx
    refine ⟨fun hi => ?_, fun he => p.snd x hx he⟩
    have key : x < next.length → ofR.getD x 0 = (L.length : Int) := by
      refine In.ind (P := fun x => x < next.length → ofR.getD x 0 = (L.length : Int)) (fun _ => p.hd) (fun y h0 hR ht hall hy => ?_) hi
      refine Classical.byContradiction fun hv => ?_
      have h1 := p.oth y hy hv
      have h2 := (o.neg hy).mpr ht
      obtain ⟨q, hq, hqy, hqv⟩ := hcl2 y hy h0 hR (by omega)
      exact hqv (hall q hq hqy (Rch.lt hq.1))
    exact key hx
  have hrow : ((h : Int) :: reR.mergeSort fun x y => decide (x ≤ y)) = toI (ivl next.length (Rch next) (pre next) (Tk L) h) := by
    unfold ivl toI
    rw [List.map_cons]
    congr 1
    refine rise_eq2 (srt_rise p.nd) (toI_rise next.length _) fun x => ?_
    rw [List.mem_mergeSort, p.rst]
    constructor
    · rintro ⟨i, h1, h2, h3, h4⟩
      exact List.mem_map.mpr ⟨i, List.mem_filter.mpr ⟨List.mem_range.mpr h1, decide_eq_true ⟨(hIn i h1).mpr h4, h3⟩⟩, h2.symm⟩
    · intro hx
      obtain ⟨i, hi, e⟩ := List.mem_map.mp hx
      obtain ⟨h1, h2⟩ := List.mem_filter.mp hi
      have h1 := List.mem_range.mp h1
      have h2 := of_decide_eq_true h2
      exact ⟨i, h1, e.symm, h2.2, (hIn i h1).mp h2.1⟩
  refine ⟨ofR, fun k hk => ?_, ⟨p.len, ?_, ?_, ?_⟩, by simp only [List.length_nil] at hcr; omega⟩
  · have hr := kw.rows hn
    have hkl := kw.kl
    have hrl := kw.rl
    unfold inter_known_interval.f
    rw [if_pos ⟨hr.1, by omega, by omega, by omega, hr.2, by omega, by omega⟩, Int.toNat_natCast, hkl, g k hk]
    simp only [Option.bind_some]
    rw [if_pos (by simp only [List.length_nil] at hcr; omega), hrow]
  · intro a i ha hi
    rw [List.length_append, List.length_singleton] at ha
    by_cases ea : a = L.length
    · subst ea
      rw [getD_snoc_last] at hi
      rcases mem_ivl.mp hi with e | ⟨h1, h2⟩
      · rw [e]; exact p.hd
      · exact (hIn i h1).mp h2
    · rw [getD_snoc (by omega)] at hi
      have h1 := o.yes a i (by omega) hi
      rw [p.kpt i (o.lim a i (by omega) hi) (by omega)]; exact h1
  · intro i hi ht
    rw [Tk_snoc] at ht
    have h1 : ¬ Tk L i := fun h => ht (.inl h)
    have h2 : i ∉ ivl next.length (Rch next) (pre next) (Tk L) h := fun h => ht (.inr h)
    have h3 : ofR.getD i 0 ≠ (L.length : Int) := fun e => h2 (mem_ivl.mpr (.inr ⟨hi, (hIn i hi).mpr e⟩))
    rw [p.oth i hi h3]
    exact o.no i hi h1
  · intro a i ha hi
    rw [List.length_append, List.length_singleton] at ha
    by_cases ea : a = L.length
    · subst ea
      rw [getD_snoc_last] at hi
      rcases mem_ivl.mp hi with e | ⟨h1, h2⟩
      · omega
      · exact h1
    · rw [getD_snoc (by omega)] at hi
      exact o.lim a i (by omega) hi
/-- The next head. -/
theorem head_spec (kw : Kw next kn pd rc) (hn : next.length ≤ 1000) {L : List (List Nat)} {of : List Int} (o : OfL next.length L of) : inter_known_head.f kn pd rc of = some (match hdo next.length (Rch next) (pre next) (Tk L) with | some h => (h : Int) | none => -1) := by
  have hd : ∀ i, i < next.length → ((rdOf false rc (i : Int) = true ∧ rd of (i : Int) < 0 ∧ ((rdR pd (i : Int)).any fun p => decide (rd of p ≥ 0)) = true) ↔ Hd (Rch next) (pre next) (Tk L) i) := by
    intro i hi
    rw [rdb_nat, rd_nat, kw.rr, o.neg hi, kw.any i hi]
    refine ⟨fun h => ⟨h.1, h.2.1, ?_⟩, fun h => ⟨h.1, h.2.1, ?_⟩⟩
    · obtain ⟨p, h1, h2⟩ := h.2.2
      have h3 := of_decide_eq_true h2
      rw [rd_nat] at h3
      refine ⟨p, h1, Classical.byContradiction fun ht => ?_⟩
      have := (o.neg (Rch.lt h1.1)).mpr ht
      omega
    · obtain ⟨p, h1, h2⟩ := h.2.2
      refine ⟨p, h1, decide_eq_true ?_⟩
      rw [rd_nat]
      have : ¬ of.getD p 0 < 0 := fun hv => (o.neg (Rch.lt h1.1)).mp hv h2
      omega
  have key : ∀ r i : Nat, i + r = next.length → (∀ j, j < i → ¬ Hd (Rch next) (pre next) (Tk L) j) → headF pd rc of r i = (match hdo next.length (Rch next) (pre next) (Tk L) with | some h => (h : Int) | none => -1) := by
    intro r
    induction r with
    | zero =>
      intro i hi hj
      rw [hdo_no fun j h => hj j (by omega)]
      rfl
    | succ r ih =>
      intro i hi hj
      simp only [headF]
      by_cases c : Hd (Rch next) (pre next) (Tk L) i
      · rw [if_pos ((hd i (by omega)).mpr c), hdo_least (by omega) c hj]
      · rw [if_neg (fun h => c ((hd i (by omega)).mp h))]
        refine ih (i + 1) (by omega) fun j h => ?_
        by_cases e : j = i
        · rw [e]; exact c
        · exact hj j (by omega)
  have hr := kw.rows hn
  have hkl := kw.kl
  have hrl := kw.rl
  have hol := o.len
  unfold inter_known_head.f
  rw [if_pos ⟨hr.1, by omega, by omega, by omega, hr.2⟩, hkl, key next.length 0 (by omega) (fun j h => by omega)]
def toL (L : List (List Nat)) : List (List Int) := L.map toI
/-- All intervals. -/
theorem loop_spec (kw : Kw next kn pd rc) (hn : next.length ≤ 1000) : ∀ (c : Nat) (L : List (List Nat)) (of : List Int) (ho : Option Nat), cneg of ≤ c → L.length + c ≤ 2000 → OfL next.length L of → (∀ h, ho = some h → h < next.length ∧ ¬ Tk L h) → (ho = none → hdo next.length (Rch next) (pre next) (Tk L) = none) →
    ∃ L2 of2, Run next.length (Rch next) (pre next) L ho L2 ∧ OfL next.length L2 of2 ∧ Ev (fun k => inter_known_parts.l1 k of (toL L) (match ho with | some h => (h : Int) | none => -1) kn pd rc) (toL L2, of2) := by
  have hkl := kw.kl
  intro c
  induction c with
  | zero =>
    intro L of ho hc hL o h1 h2
    cases ho with
    | some h =>
      obtain ⟨h3, h4⟩ := h1 h rfl
      obtain ⟨_, _, _, h5⟩ := interval_spec kw hn o h3 h4
      omega
    | none =>
      refine ⟨L, of, .done L, o, ⟨2, fun k hk => ?_⟩⟩
      obtain ⟨k, rfl⟩ : ∃ m, k = m + 2 := ⟨k - 2, by omega⟩
      simp only [inter_known_parts.l1, inter_known_parts.j2]
      rw [if_neg (by decide), if_neg (by decide)]
  | succ c ih =>
    intro L of ho hc hL o h1 h2
    cases ho with
    | none =>
      refine ⟨L, of, .done L, o, ⟨2, fun k hk => ?_⟩⟩
      obtain ⟨k, rfl⟩ : ∃ m, k = m + 2 := ⟨k - 2, by omega⟩
      simp only [inter_known_parts.l1, inter_known_parts.j2]
      rw [if_neg (by decide), if_neg (by decide)]
    | some h =>
      obtain ⟨h3, h4⟩ := h1 h rfl
      obtain ⟨of2, g1, o2, h5⟩ := interval_spec kw hn o h3 h4
      have g2 := head_spec kw hn o2
      obtain ⟨L2, of3, r, o3, ⟨K, g⟩⟩ := ih (L ++ [ivl next.length (Rch next) (pre next) (Tk L) h]) of2 (hdo next.length (Rch next) (pre next) (Tk (L ++ [ivl next.length (Rch next) (pre next) (Tk L) h]))) (by omega) (by simp only [List.length_append, List.length_singleton]; omega) o2
        (fun h' e => by obtain ⟨a1, a2, _⟩ := hdo_some e; exact ⟨a1, a2.2.1⟩) (fun e => e)
      simp only at g
      refine ⟨L2, of3, .more r, o3, ⟨K + next.length + 3, fun k hk => ?_⟩⟩
      obtain ⟨k, rfl⟩ : ∃ m, k = m + 2 := ⟨k - 2, by omega⟩
      have hll : (toL L).length = L.length := by simp [toL]
      simp only [inter_known_parts.l1]
      rw [if_pos (by omega), decide_eq_true (by omega)]
      simp only [inter_known_parts.j2]
      rw [if_pos trivial, hll, g1 k (by omega)]
      simp only [Option.bind_some]
      rw [if_pos (by omega), g2]
      simp only [Option.bind_some]
      have e : toL L ++ [toI (ivl next.length (Rch next) (pre next) (Tk L) h)] = toL (L ++ [ivl next.length (Rch next) (pre next) (Tk L) h]) := by simp [toL]
      rw [e]
      exact g k (by omega)
/-- What parts tells. -/
structure Prt (next : List (List Int)) (L : List (List Nat)) (of : List Int) : Prop where
  st : St next.length (Rch next) (pre next) L
  ne : L ≠ []
  no : hdo next.length (Rch next) (pre next) (Tk L) = none
  ofl : OfL next.length L of
theorem parts_ev (kw : Kw next kn pd rc) (hn : next.length ≤ 1000) (h0 : 0 < next.length) : ∃ L of, Prt next L of ∧ Run next.length (Rch next) (pre next) [] (some 0) L ∧ Ev (fun k => inter_known_parts.f k kn pd rc) (toL L, of) := by
  have hkl := kw.kl
  obtain ⟨of0, hof0⟩ : ∃ of0, of0 = List.replicate next.length (-1 : Int) := ⟨_, rfl⟩
  have o : OfL next.length [] of0 := ⟨by rw [hof0]; simp, fun a i ha => by simp at ha, fun i hi _ => by rw [hof0]; simp [List.getD_eq_getElem?_getD, hi], fun a i ha => by simp at ha⟩
  have hcl := cneg_le of0
  have hol := o.len
  obtain ⟨L, of, r, o2, ⟨K, g⟩⟩ := loop_spec kw hn (cneg of0) [] of0 (some 0) (Nat.le_refl _) (by simp only [List.length_nil]; omega) o (fun h e => by injection e with e; exact ⟨by omega, Tk_nil⟩) (fun e => by cases e)
  simp only at g
  have gr := graph next h0
  obtain ⟨s1, s2, s3⟩ := r.kept gr (fun x hx => Rch.lt hx) St.nil (fun h e => by injection e with e; subst e; exact ⟨gr.r0, .inl ⟨rfl, rfl⟩⟩) (fun e => by cases e)
  refine ⟨L, of, ⟨s1, s2, s3, o2⟩, r, ?_⟩
  have key : ∀ r j : Nat, ∀ ofj : List Int, j + r = next.length → ofj.length = next.length → (∀ i, i < j → ofj.getD i 0 = -1) → Ev (fun k => inter_known_parts.l0 k ofj (next.length : Int) (j : Int) kn pd rc) (toL L, of) := by
    intro r
    induction r with
    | zero =>
      intro j ofj hj hl hv
      have e : ofj = of0 := by
        rw [hof0]
        refine List.ext_getElem (by simp [hl]) fun i h1 h2 => ?_
        have := hv i (by omega)
        simpa [List.getD_eq_getElem?_getD, h1] using this
      refine ⟨K + 1, fun k hk => ?_⟩
      obtain ⟨k, rfl⟩ : ∃ m, k = m + 1 := ⟨k - 1, by omega⟩
      simp only [inter_known_parts.l0]
      rw [if_neg (by omega), e]
      exact g k (by omega)
    | succ r ih =>
      intro j ofj hj hl hv
      obtain ⟨K1, g1⟩ := ih (j + 1) (ofj.set j (-1)) (by omega) (by rw [List.length_set]; exact hl) (fun i hi => by
        rw [getI_set _ _ _ _ (by omega)]
        by_cases e : i = j
        · rw [if_pos e]
        · rw [if_neg e]; exact hv i (by omega))
      simp only at g1
      refine ⟨K1 + 1, fun k hk => ?_⟩
      obtain ⟨k, rfl⟩ : ∃ m, k = m + 1 := ⟨k - 1, by omega⟩
      simp only [inter_known_parts.l0]
      rw [if_pos (by omega), if_pos (by omega), if_pos (by omega), Int.toNat_natCast, wnext j (by omega)]
      exact g1 k (by omega)
  obtain ⟨K1, g1⟩ := key next.length 0 (List.replicate next.length 0) (by omega) (by simp) (fun i hi => by omega)
  simp only at g1
  refine ⟨K1, fun k hk => ?_⟩
  simp only [inter_known_parts.f]
  rw [hkl, if_pos (by omega), if_pos (by omega)]
  simp only [Option.bind_some, Int.toNat_natCast, List.length_replicate]
  exact g1 k hk
end
end Go.Proofs.Ytfiffhcpgojkhaa.PitInterParts
/- inter.Derive: the next graph; plain. No condition but that the graph is small. -/
namespace Go.Proofs.Ytfiffhcpgojkhaa.PiuInterParts
open Go.Proofs.Ytfiffhcpgojkhaa Go.Proofs.Ytfiffhcpgojkhaa.QInterParts Go.Proofs.Ytfiffhcpgojkhaa.PdB Go.Proofs.Ytfiffhcpgojkhaa.PikInterParts Go.Proofs.Ytfiffhcpgojkhaa.PitInterParts Go.Proofs.Ytfiffhcpgojkhaa.InterE Go.Proofs.Ytfiffhcpgojkhaa.DomF Go.Proofs.Ytfiffhcpgojkhaa.DomT Go.Proofs.Ytfiffhcpgojkhaa.DomP Go.Proofs.Ytfiffhcpgojkhaa.IntT Go.Proofs.Ytfiffhcpgojkhaa.IntU Go.RowKit Go.Proofs.YtfiffhcpgojkhaaW.PrintWords Go.Proofs.YtfiffhcpgojkhaaW.PrintLast Go.Proofs.YtfiffhcpgojkhaaW.PrintMore
set_option linter.unusedSimpArgs false
set_option linter.unusedVariables false
theorem nodup_sub {α : Type} [BEq α] [LawfulBEq α] : ∀ (l m : List α), l.Nodup → (∀ x, x ∈ l → x ∈ m) → l.length ≤ m.length := by
  intro l
  induction l with
  | nil => intro m _ _; simp
  | cons a l ih =>
    intro m hn hs
    obtain ⟨h1, h2⟩ := List.nodup_cons.mp hn
    have ha := hs a List.mem_cons_self
    have h3 := ih (m.erase a) h2 fun x hx => (List.mem_erase_of_ne (fun e => h1 (by rw [← e]; exact hx))).mpr (hs x (List.mem_cons_of_mem _ hx))
    rw [List.length_erase_of_mem ha] at h3
    have := List.length_pos_of_mem ha
    simp only [List.length_cons]
    omega
theorem same_len {α : Type} [BEq α] [LawfulBEq α] {l m : List α} (hl : l.Nodup) (hm : m.Nodup) (h : ∀ x, x ∈ l ↔ x ∈ m) : l.length = m.length :=
  Nat.le_antisymm (nodup_sub l m hl fun x hx => (h x).mp hx) (nodup_sub m l hm fun x hx => (h x).mpr hx)
theorem flat_len : ∀ (L : List (List Nat)), (∀ l, l ∈ L → 1 ≤ l.length) → L.length ≤ L.flatten.length ∧ (L.flatten.length ≤ L.length → ∀ l, l ∈ L → l.length = 1) := by
  intro L
  induction L with
  | nil => intro _; exact ⟨Nat.le_refl _, fun _ l hl => by cases hl⟩
  | cons a L ih =>
    intro h
    obtain ⟨h1, h2⟩ := ih fun l hl => h l (List.mem_cons_of_mem _ hl)
    have ha := h a List.mem_cons_self
    rw [List.flatten_cons, List.length_append, List.length_cons]
    refine ⟨by omega, fun hle l hl => ?_⟩
    rcases List.mem_cons.mp hl with e | hl
    · rw [e]; omega
    · exact h2 (by omega) l hl
section
variable {next kn pd : List (List Int)} {rc : List Bool} {L : List (List Nat)} {of : List Int}
open Classical in
/-- How many places are reached. -/
noncomputable def nr (next : List (List Int)) : Nat := ((List.range next.length).filter fun x => decide (Rch next x)).length
open Classical in
theorem nr_of {T : List Nat} (hn : T.Nodup) (h : ∀ x, x ∈ T ↔ Rch next x) : T.length = nr next := by
  refine same_len hn ((nodup_range _).filter _) fun x => ?_
  rw [h, List.mem_filter, List.mem_range, decide_eq_true_iff]
  exact ⟨fun hx => ⟨Rch.lt hx, hx⟩, fun hx => hx.2⟩
theorem _root_.Go.Proofs.Ytfiffhcpgojkhaa.PitInterParts.Prt.cover (p : Prt next L of) (h0 : 0 < next.length) {x : Nat} : Tk L x ↔ Rch next x := by
  constructor
  · intro ht
    obtain ⟨a, ha, hx⟩ := Tk_get.mp ht
    exact p.st.memR ha hx
  · exact p.st.cover (graph next h0) (fun x hx => Rch.lt hx) p.ne p.no x
theorem _root_.Go.Proofs.Ytfiffhcpgojkhaa.PitInterParts.Prt.flat (p : Prt next L of) (h0 : 0 < next.length) : L.flatten.Nodup ∧ ∀ x, x ∈ L.flatten ↔ Rch next x := by
  constructor
  · unfold List.Nodup
    rw [List.pairwise_flatten]
    constructor
    · intro l hl
      obtain ⟨a, ha, rfl⟩ := List.getElem_of_mem hl
      have := p.st.iv a ha
      rw [List.getD_eq_getElem?_getD, List.getElem?_eq_getElem ha, Option.getD_some] at this
      rw [this]
      exact ivl_nodup
    · rw [List.pairwise_iff_getElem]
      intro i j hi hj hij x hx y hy e
      subst e
      have := p.st.one i j x hi hj (by simpa [List.getD_eq_getElem?_getD, hi] using hx) (by simpa [List.getD_eq_getElem?_getD, hj] using hy)
      omega
  · intro x
    rw [← p.cover h0, List.mem_flatten]
    rfl
theorem _root_.Go.Proofs.Ytfiffhcpgojkhaa.PitInterParts.Prt.one_len (p : Prt next L of) : ∀ l, l ∈ L → 1 ≤ l.length := by
  intro l hl
  obtain ⟨a, ha, rfl⟩ := List.getElem_of_mem hl
  have := p.st.head_mem ha
  rw [List.getD_eq_getElem?_getD, List.getElem?_eq_getElem ha, Option.getD_some] at this
  exact List.length_pos_of_mem this
theorem _root_.Go.Proofs.Ytfiffhcpgojkhaa.PitInterParts.Prt.len_le (p : Prt next L of) (h0 : 0 < next.length) : L.length ≤ nr next := by
  have h1 := (flat_len L p.one_len).1
  have h2 := nr_of (p.flat h0).1 (p.flat h0).2
  omega
theorem nr_le : nr next ≤ next.length := by
  unfold nr
  refine Nat.le_trans (List.length_filter_le _ _) ?_
  simp
/-- Each place is an interval, if there are as many. -/
theorem _root_.Go.Proofs.Ytfiffhcpgojkhaa.PitInterParts.Prt.single (p : Prt next L of) (h0 : 0 < next.length) (h : nr next ≤ L.length) : ∀ x, Rch next x → x = hdl L (ix L x) := by
  intro x hx
  have h2 := nr_of (p.flat h0).1 (p.flat h0).2
  have h1 := (flat_len L p.one_len).2 (by omega)
  obtain ⟨h3, h4⟩ := ix_mem ((p.cover h0).mpr hx)
  have h5 := p.st.head_mem h3
  have h6 : (L.getD (ix L x) []).length = 1 := h1 _ (by simp [List.getD_eq_getElem?_getD, h3])
  obtain ⟨y, hy⟩ := List.length_eq_one_iff.mp h6
  rw [hy, List.mem_singleton] at h4 h5
  exact h4.trans h5.symm
/-- Where a place is, in the program's table. -/
theorem _root_.Go.Proofs.Ytfiffhcpgojkhaa.PitInterParts.Prt.at_ (p : Prt next L of) (h0 : 0 < next.length) {i : Nat} (hi : Rch next i) : of.getD i 0 = (ix L i : Int) ∧ ix L i < L.length := by
  obtain ⟨h3, h4⟩ := ix_mem ((p.cover h0).mpr hi)
  exact ⟨p.ofl.yes _ _ h3 h4, h3⟩
theorem _root_.Go.Proofs.Ytfiffhcpgojkhaa.PitInterParts.Prt.no_ (p : Prt next L of) (h0 : 0 < next.length) {i : Nat} (hl : i < next.length) (hi : ¬ Rch next i) : of.getD i 0 = -1 := p.ofl.no i hl fun h => hi ((p.cover h0).mp h)
theorem rdL_nat (P : List (List Int)) (i : Nat) : DomA.rdL P (i : Int) = P.getD i [] := by simp [DomA.rdL]
/-- One place's row. -/
theorem derB_spec (p : Prt next L of) (h0 : 0 < next.length) {i : Nat} (hi : Rch next i) : ∀ (ts : List Int) (P : List (List Int)), (∀ t, t ∈ ts → ∀ u : Nat, t = (u : Int) → u < next.length → Rch next u) → P.length = L.length → (P.getD (ix L i) []).length + ts.length ≤ 17592186044416 →
    ∃ P2, derB of (ix L i : Int) ts P = some P2 ∧ P2.length = L.length ∧ (∀ a, a ≠ ix L i → P2.getD a [] = P.getD a []) ∧ (P2.getD (ix L i) []).length ≤ (P.getD (ix L i) []).length + ts.length ∧
      ∀ x, x ∈ P2.getD (ix L i) [] ↔ x ∈ P.getD (ix L i) [] ∨ ∃ u : Nat, (u : Int) ∈ ts ∧ u < next.length ∧ ix L u ≠ ix L i ∧ x = (ix L u : Int) := by
  have hix := (p.at_ h0 hi).2
  have hol := p.ofl.len
  intro ts
  induction ts with
  | nil =>
    intro P _ hP _
    exact ⟨P, rfl, hP, fun _ _ => rfl, by simp, fun x => ⟨.inl, fun h => h.elim id (fun ⟨u, h, _⟩ => by cases h)⟩⟩
  | cons t ts ih =>
    intro P ht hP hb
    simp only [List.length_cons] at hb
    simp only [derB]
    by_cases c : 0 ≤ t ∧ t < (of.length : Int) ∧ rd of t ≠ (ix L i : Int)
    · rw [if_pos c, rdL_nat, if_pos (by omega), Int.toNat_natCast]
      obtain ⟨u, rfl⟩ : ∃ u : Nat, t = (u : Int) := ⟨t.toNat, by omega⟩
      have hu : u < next.length := by omega
      have huR := ht _ List.mem_cons_self u rfl hu
      have hv := p.at_ h0 huR
      rw [PitInterParts.rd_nat, hv.1] at c ⊢
      have hlen : ∀ a, (P.set (ix L i) (P.getD (ix L i) [] ++ [(ix L u : Int)])).getD a [] = if a = ix L i then P.getD (ix L i) [] ++ [(ix L u : Int)] else P.getD a [] := fun a => PipInterParts.getDl_set _ _ _ _ (by omega)
      obtain ⟨P2, e, h1, h2, h3, h4⟩ := ih (P.set (ix L i) (P.getD (ix L i) [] ++ [(ix L u : Int)])) (fun t' ht' => ht t' (List.mem_cons_of_mem _ ht')) (by rw [List.length_set]; exact hP) (by rw [hlen, if_pos rfl, List.length_append, List.length_singleton]; omega)
      refine ⟨P2, e, h1, fun a ha => by rw [h2 a ha, hlen, if_neg ha], ?_, fun x => ?_⟩
      · rw [hlen, if_pos rfl, List.length_append, List.length_singleton] at h3
        simp only [List.length_cons]; omega
      · rw [h4, hlen, if_pos rfl, List.mem_append, List.mem_singleton]
        constructor
        · rintro ((h | h) | ⟨u', h5, h6, h7, h8⟩)
          · exact .inl h
          · exact .inr ⟨u, List.mem_cons_self, hu, fun e => c.2.2 (by rw [e]), h⟩
          · exact .inr ⟨u', List.mem_cons_of_mem _ h5, h6, h7, h8⟩
        · rintro (h | ⟨u', h5, h6, h7, h8⟩)
          · exact .inl (.inl h)
          · rcases List.mem_cons.mp h5 with e | h5
            · have : u' = u := by omega
              subst this
              exact .inl (.inr h8)
            · exact .inr ⟨u', h5, h6, h7, h8⟩
    · rw [if_neg c]
      obtain ⟨P2, e, h1, h2, h3, h4⟩ := ih P (fun t' ht' => ht t' (List.mem_cons_of_mem _ ht')) hP (by omega)
      refine ⟨P2, e, h1, h2, by simp only [List.length_cons]; omega, fun x => ?_⟩
      rw [h4]
      constructor
      · rintro (h | ⟨u', h5, h6, h7, h8⟩)
        · exact .inl h
        · exact .inr ⟨u', List.mem_cons_of_mem _ h5, h6, h7, h8⟩
      · rintro (h | ⟨u', h5, h6, h7, h8⟩)
        · exact .inl h
        · rcases List.mem_cons.mp h5 with e | h5
          · exfalso
            refine c ⟨by omega, by omega, ?_⟩
            have huR := ht _ List.mem_cons_self u' e.symm h6
            rw [← e, PitInterParts.rd_nat, (p.at_ h0 huR).1]
            omega
          · exact .inr ⟨u', h5, h6, h7, h8⟩
/-- What the rows hold behind the first i places. -/
def Dt (next : List (List Int)) (L : List (List Nat)) (i a : Nat) (x : Int) : Prop := ∃ j u : Nat, j < i ∧ pre next j u ∧ ix L j = a ∧ ix L u ≠ a ∧ x = (ix L u : Int)
theorem derA_spec (kw : Kw next kn pd rc) (sm : Small next) (p : Prt next L of) (h0 : 0 < next.length) : ∀ (r i : Nat) (P : List (List Int)), i + r = next.length → P.length = L.length → (∀ a, (P.getD a []).length ≤ 1000 * i) → (∀ a x, x ∈ P.getD a [] ↔ a < L.length ∧ Dt next L i a x) →
    ∃ P2, derA kn of r i P = some P2 ∧ P2.length = L.length ∧ (∀ a, (P2.getD a []).length ≤ 1000 * next.length) ∧ ∀ a x, x ∈ P2.getD a [] ↔ a < L.length ∧ Dt next L next.length a x := by
  have hkl := kw.kl
  have hn := sm.1
  intro r
  induction r with
  | zero =>
    intro i P hi hP hl hx
    obtain rfl : i = next.length := by omega
    exact ⟨P, rfl, hP, hl, hx⟩
  | succ r ih =>
    intro i P hi hP hl hx
    have hil : i < next.length := by omega
    simp only [derA, PitInterParts.rd_nat, rdL_nat]
    have hno : ∀ a x, (∀ u, ¬ (pre next i u ∧ ix L i = a ∧ ix L u ≠ a ∧ x = (ix L u : Int))) → (Dt next L (i + 1) a x ↔ Dt next L i a x) := by
      intro a x h
      constructor
      · rintro ⟨j, u, h1, h2, h3, h4, h5⟩
        by_cases e : j = i
        · subst e; exact absurd ⟨h2, h3, h4, h5⟩ (h u)
        · exact ⟨j, u, by omega, h2, h3, h4, h5⟩
      · rintro ⟨j, u, h1, h2⟩
        exact ⟨j, u, by omega, h2⟩
    by_cases hR : Rch next i
    · obtain ⟨hv, hix⟩ := p.at_ h0 hR
      have hrow := sm.2 i
      rw [hv, if_neg (by omega), if_pos ⟨by omega, by omega, by rw [kw.kr i hR]; omega⟩, kw.kr i hR]
      have hPl := hl (ix L i)
      obtain ⟨P2, e, h1, h2, h3, h4⟩ := derB_spec p h0 hR (next.getD i []) P (fun t ht u e hu => .step hR ⟨e ▸ ht, hu⟩) hP (by omega)
      rw [e]
      simp only [Option.bind_some]
      refine ih (i + 1) P2 (by omega) h1 (fun a => ?_) (fun a x => ?_)
      · by_cases ea : a = ix L i
        · rw [ea]; omega
        · rw [h2 a ea]; have := hl a; omega
      · by_cases ea : a = ix L i
        · subst ea
          rw [h4, hx]
          constructor
          · rintro (⟨h5, j, u, h6, h7⟩ | ⟨u, h5, h6, h7, h8⟩)
            · exact ⟨h5, j, u, by omega, h7⟩
            · exact ⟨hix, i, u, by omega, ⟨hR, h5, h6⟩, rfl, h7, h8⟩
          · rintro ⟨h5, j, u, h6, h7, h8, h9, h10⟩
            by_cases e : j = i
            · subst e
              exact .inr ⟨u, h7.2.1, h7.2.2, h9, h10⟩
            · exact .inl ⟨h5, j, u, by omega, h7, h8, h9, h10⟩
        · rw [h2 a ea, hx, hno a x fun u h => ea h.2.1.symm]
    · rw [p.no_ h0 hil hR, if_pos (by omega)]
      refine ih (i + 1) P (by omega) hP (fun a => by have := hl a; omega) (fun a x => ?_)
      rw [hx, hno a x fun u h => hR h.1.1]
/-- Each row sorted, without doubles. -/
theorem derC_spec : ∀ (r i : Nat) (P : List (List Int)), i + r = P.length → (∀ a, (P.getD a []).length ≤ 1000000) → ∃ D, derC r i P = some D ∧ D.length = P.length ∧ (∀ a, a < i → D.getD a [] = P.getD a []) ∧ ∀ a, i ≤ a → a < P.length → D.getD a [] = PdC.sc (P.getD a []) := by
  intro r
  induction r with
  | zero =>
    intro i P hi _
    exact ⟨P, rfl, rfl, fun _ _ => rfl, fun a h1 h2 => by omega⟩
  | succ r ih =>
    intro i P hi hl
    have hli := hl i
    simp only [derC, rdL_nat]
    rw [if_pos (by omega)]
    have hset : ∀ a, (P.set i (PdC.sc (P.getD i []))).getD a [] = if a = i then PdC.sc (P.getD i []) else P.getD a [] := fun a => PipInterParts.getDl_set _ _ _ _ (by omega)
    obtain ⟨D, e, h1, h2, h3⟩ := ih (i + 1) (P.set i (PdC.sc (P.getD i []))) (by rw [List.length_set]; omega) (fun a => by
      rw [hset]
      split
      · have := PdC.sc_len (P.getD i []); omega
      · exact hl a)
    rw [List.length_set] at h1 h3
    refine ⟨D, e, h1, fun a ha => by rw [h2 a (by omega), hset, if_neg (by omega)], fun a h4 h5 => ?_⟩
    by_cases ea : a = i
    · rw [ea, h2 i (by omega), hset, if_pos rfl]
    · rw [h3 a (by omega) h5, hset, if_neg ea]
/-- The next graph. -/
structure Dv (next : List (List Int)) (L : List (List Nat)) (D : List (List Int)) : Prop where
  len : D.length = L.length
  rise : ∀ a, (D.getD a []).Pairwise (· < ·)
  mem : ∀ a x, x ∈ D.getD a [] ↔ ∃ b : Nat, x = (b : Int) ∧ pre' L.length (hdl L) (ix L) (pre next) a b
theorem derive_ev (sm : Small next) (h0 : 0 < next.length) : ∃ L of D, Prt next L of ∧ Dv next L D ∧ Run next.length (Rch next) (pre next) [] (some 0) L ∧ Ev (fun k => inter_Parts.f k next) (toL L) ∧ Ev (fun k => inter_Derive.f k next) D := by
  obtain ⟨kn, pd, rc, kw, ⟨K1, g1⟩⟩ := know_ev next sm
  obtain ⟨L, of, p, run, ⟨K2, g2⟩⟩ := parts_ev kw sm.1 h0
  simp only at g1 g2
  have hn := sm.1
  have hLl := p.len_le h0
  have hnr := nr_le (next := next)
  have hol := p.ofl.len
  obtain ⟨P2, e1, h1, h2, h3⟩ := derA_spec kw sm p h0 next.length 0 (List.replicate L.length []) (by omega) (by simp) (fun a => by
    by_cases h : a < L.length <;> simp [List.getD_eq_getElem?_getD, h]) (fun a x => by
    have : (List.replicate L.length ([] : List Int)).getD a [] = [] := by
      by_cases h : a < L.length <;> simp [List.getD_eq_getElem?_getD, h]
    rw [this]
    exact ⟨fun h => (by cases h), fun ⟨_, j, u, h, _⟩ => absurd h (Nat.not_lt_zero _)⟩)
  obtain ⟨D, e2, h4, _, h5⟩ := derC_spec P2.length 0 P2 (by omega) (fun a => by have := h2 a; omega)
  have hrow : ∀ a, D.getD a [] = PdC.sc (P2.getD a []) := by
    intro a
    by_cases ha : a < P2.length
    · exact h5 a (Nat.zero_le _) ha
    · have : P2.getD a [] = [] := by simp [List.getD_eq_getElem?_getD, show P2.length ≤ a by omega]
      rw [this]
      have : D.getD a [] = [] := by simp [List.getD_eq_getElem?_getD, show D.length ≤ a by omega]
      rw [this]
      exact (List.eq_nil_of_length_eq_zero (Nat.le_zero.mp (PdC.sc_len []))).symm
  obtain ⟨rk, iv⟩ := p.st.ivs (graph next h0) (fun x hx => Rch.lt hx) p.ne p.no
  refine ⟨L, of, D, p, ⟨by omega, fun a => by rw [hrow]; exact PdC.sc_rise _, fun a x => ?_⟩, run, ⟨max K1 K2, fun k hk => ?_⟩, ⟨max K1 K2, fun k hk => ?_⟩⟩
  · rw [hrow, PdC.sc_mem, h3]
    constructor
    · rintro ⟨ha, j, u, _, h7, h8, h9, h10⟩
      have hu : Rch next u := .step h7.1 h7.2
      refine ⟨ix L u, h10, ha, iv.ixm u hu, fun e => h9 e.symm, j, ?_, h8⟩
      have : u = hdl L (ix L u) := Classical.byContradiction fun hne => by
        have := (iv.inn u j hu hne h7).1
        omega
      rw [← this]; exact h7
    · rintro ⟨b, e, ha, hb, hne, j, hj, hja⟩
      have hb2 := (iv.hdR b hb).2
      exact ⟨ha, j, hdl L b, Rch.lt hj.1, hj, hja, by rw [hb2]; exact fun e => hne e.symm, by rw [hb2]; exact e⟩
  · simp only [inter_Parts.f]
    rw [g1 k (by omega)]
    simp only [Option.bind_some]
    rw [g2 k (by omega)]
    rfl
  · simp only [inter_Derive.f]
    rw [g1 k (by omega)]
    simp only [Option.bind_some]
    rw [g2 k (by omega)]
    simp only [Option.bind_some]
    have hll : (toL L).length = L.length := by simp [toL]
    rw [if_pos ⟨by omega, by omega⟩, hll, hol, e1]
    simp only [Option.bind_some]
    exact e2
/-- The next graph as a graph. -/
theorem Dv.pre {D : List (List Int)} (v : Dv next L D) (p : Prt next L of) (h0 : 0 < next.length) (hD : D.length = L.length) : (∀ a, Rch D a ↔ a < L.length) ∧ ∀ a b, DomP.pre D a b ↔ pre' L.length (hdl L) (ix L) (DomP.pre next) a b := by
  obtain ⟨rk, iv⟩ := p.st.ivs (graph next h0) (fun x hx => Rch.lt hx) p.ne p.no
  have g2 := iv.nx (graph next h0)
  have hL0 : 0 < L.length := g2.r0
  have hE : ∀ a b, pre' L.length (hdl L) (ix L) (DomP.pre next) a b → E D a b := fun a b h => ⟨(v.mem a _).mpr ⟨b, rfl, h⟩, by have := h.2.1; omega⟩
  have hR : ∀ a, Rch D a ↔ a < L.length := by
    intro a
    constructor
    · intro h; have := Rch.lt h; omega
    · exact g2.rch (fun a => Rch D a) (.root (by omega)) (fun q j hq hqj => .step hq (hE q j hqj)) a
  refine ⟨hR, fun a b => ⟨fun h => ?_, fun h => ⟨(hR a).mpr h.1, hE a b h⟩⟩⟩
  obtain ⟨b', e, h2⟩ := (v.mem a _).mp h.2.1
  have : b = b' := by omega
  rw [this]; exact h2
theorem Dv.small {D : List (List Int)} (v : Dv next L D) (hL : L.length ≤ 1000) : Small D := by
  refine ⟨by have := v.len; omega, fun a => ?_⟩
  have h1 : ((D.getD a []).map Int.toNat).Nodup := by
    unfold List.Nodup
    rw [List.pairwise_map]
    refine List.Pairwise.imp_of_mem (fun {x y} hx hy hlt => ?_) (v.rise a)
    obtain ⟨b, e, _⟩ := (v.mem a x).mp hx
    obtain ⟨c, e2, _⟩ := (v.mem a y).mp hy
    omega
  have h2 := nodup_len L.length _ h1 fun y hy => by
    obtain ⟨x, hx, rfl⟩ := List.mem_map.mp hy
    obtain ⟨b, e, h⟩ := (v.mem a x).mp hx
    have := h.2.1
    omega
  rw [List.length_map] at h2
  omega
end
end Go.Proofs.Ytfiffhcpgojkhaa.PiuInterParts
/- inter.Tower, inter.Reducible, and that the program answers at all; plain. No condition but that the graph is small. -/
namespace Go.Proofs.Ytfiffhcpgojkhaa.PivInterParts
open Go.Proofs.Ytfiffhcpgojkhaa Go.Proofs.Ytfiffhcpgojkhaa.QInterParts Go.Proofs.Ytfiffhcpgojkhaa.PdB Go.Proofs.Ytfiffhcpgojkhaa.PikInterParts Go.Proofs.Ytfiffhcpgojkhaa.PitInterParts Go.Proofs.Ytfiffhcpgojkhaa.PiuInterParts Go.Proofs.Ytfiffhcpgojkhaa.InterE Go.Proofs.Ytfiffhcpgojkhaa.DomF Go.Proofs.Ytfiffhcpgojkhaa.DomT Go.Proofs.Ytfiffhcpgojkhaa.DomP Go.Proofs.Ytfiffhcpgojkhaa.IntT Go.Proofs.Ytfiffhcpgojkhaa.IntU Go.RowKit Go.Proofs.YtfiffhcpgojkhaaW.PrintWords Go.Proofs.YtfiffhcpgojkhaaW.PrintLast Go.Proofs.YtfiffhcpgojkhaaW.PrintMore
set_option linter.unusedSimpArgs false
set_option linter.unusedVariables false
/-- The last of a row. -/
def lst : Nat → List Nat → Nat
 | n, [] => n
 | _, m :: l => lst m l
theorem lst_get : ∀ (l : List Nat) (n : Nat), (toI (n :: l)).getD l.length 0 = (lst n l : Int) := by
  intro l
  induction l with
  | nil => intro n; rfl
  | cons m l ih =>
    intro n
    have := ih m
    simpa [toI, lst] using this
theorem derive_nil : Ev (fun k => inter_Derive.f k []) [] := by
  obtain ⟨kn, pd, rc, kw, ⟨K, g⟩⟩ := know_ev [] ⟨by simp, fun i => by simp⟩
  simp only at g
  have e1 : kn = [] := List.eq_nil_of_length_eq_zero kw.kl
  refine ⟨K + 4, fun k hk => ?_⟩
  obtain ⟨k, rfl⟩ : ∃ m, k = m + 3 := ⟨k - 3, by omega⟩
  simp only [inter_Derive.f]
  rw [g (k + 3) (by omega), e1]
  simp [inter_known_parts.f, inter_known_parts.l0, inter_known_parts.l1, inter_known_parts.j2, derA, derC]
open Classical in
theorem nr_cyc {g : List (List Int)} (h : nr g ≤ 1) : ¬ Cyc (pre g) := by
  have two : ∀ a b, ¬ F (pre g) a b := by
    intro a b hF
    have ha : Rch g a := hF.1.1
    have hb : Rch g b := .step hF.1.1 hF.1.2
    have hne : a ≠ b := fun e => by
      have := hF.2
      rw [e] at this
      exact av_self this
    have := nodup_sub [a, b] ((List.range g.length).filter fun x => decide (Rch g x)) (by simp [hne]) fun x hx => by
      rw [List.mem_filter, List.mem_range, decide_eq_true_iff]
      rcases List.mem_cons.mp hx with e | hx
      · rw [e]; exact ⟨Rch.lt ha, ha⟩
      · rw [List.mem_singleton] at hx; rw [hx]; exact ⟨Rch.lt hb, hb⟩
    unfold nr at h
    simp only [List.length_cons, List.length_nil] at this
    omega
  rintro ⟨x, hx⟩
  have key : ∀ a b, T (F (pre g)) a b → False := by
    intro a b ht
    induction ht with
    | one hf => exact two _ _ hf
    | more _ _ ih => exact ih
  exact key x x hx
open Classical in
theorem nr_one {g : List (List Int)} (h : ∀ x, Rch g x → x = 0) : nr g ≤ 1 := by
  have := nodup_sub ((List.range g.length).filter fun x => decide (Rch g x)) [0] ((nodup_range _).filter _) fun x hx => by
    rw [List.mem_filter, decide_eq_true_iff] at hx
    rw [h x hx.2]; simp
  unfold nr
  simpa using this
open Classical in
theorem nr_pos {g : List (List Int)} (h : 0 < g.length) : 0 < nr g := by
  unfold nr
  refine List.length_pos_of_mem (a := 0) ?_
  rw [List.mem_filter, List.mem_range, decide_eq_true_iff]
  exact ⟨h, .root h⟩
theorem cyc_congr {p q : Nat → Nat → Prop} (h : ∀ a b, p a b ↔ q a b) : Cyc p ↔ Cyc q := by
  have : p = q := by funext a b; exact propext (h a b)
  rw [this]
/-- The tower. -/
theorem tower_ev : ∀ (c : Nat) (g : List (List Int)), Small g → nr g ≤ c → c ≤ 1000 → ∃ l : List Nat, l.length ≤ c ∧ (nr g :: l).Pairwise (· > ·) ∧ (lst (nr g) l ≤ 1 ↔ ¬ Cyc (pre g)) ∧ ∀ out : List Int, out.length + c ≤ 2000 → Ev (fun k => inter_Tower.l0 k g (nr g : Int) out) (out ++ toI l) := by
  intro c
  induction c with
  | zero =>
    intro g sm hc _
    refine ⟨[], Nat.le_refl _, by simp, ?_, fun out _ => ?_⟩
    · have : nr g ≤ 1 := by omega
      exact ⟨fun _ => nr_cyc this, fun _ => this⟩
    · have h0 : g.length = 0 := by
        refine Classical.byContradiction fun hn => ?_
        have h2 := nr_pos (g := g) (by omega)
        omega
      obtain rfl := List.eq_nil_of_length_eq_zero h0
      obtain ⟨K, e⟩ := derive_nil
      simp only at e
      refine ⟨K + 1, fun k hk => ?_⟩
      obtain ⟨k, rfl⟩ : ∃ m, k = m + 1 := ⟨k - 1, by omega⟩
      simp only [inter_Tower.l0]
      rw [e k (by omega)]
      simp only [Option.bind_some]
      rw [if_pos (by simp only [List.length_nil]; omega)]
      simp [toI]
  | succ c ih =>
    intro g sm hc hc2
    by_cases h0 : g.length = 0
    · obtain rfl := List.eq_nil_of_length_eq_zero h0
      have hz : nr [] ≤ 1 := by have := nr_le (next := []); simp only [List.length_nil] at this; omega
      have hz2 : nr [] = 0 := by have := nr_le (next := []); simp only [List.length_nil] at this; omega
      refine ⟨[], by simp, by simp, ⟨fun _ => nr_cyc hz, fun _ => hz⟩, fun out _ => ?_⟩
      obtain ⟨K, e⟩ := derive_nil
      simp only at e
      refine ⟨K + 1, fun k hk => ?_⟩
      obtain ⟨k, rfl⟩ : ∃ m, k = m + 1 := ⟨k - 1, by omega⟩
      simp only [inter_Tower.l0]
      rw [e k (by omega)]
      simp only [Option.bind_some]
      rw [if_pos (by rw [hz2]; simp)]
      simp [toI]
    · have h0 : 0 < g.length := by omega
      obtain ⟨L, of, D, p, v, _, _, ⟨K, e⟩⟩ := derive_ev sm h0
      simp only at e
      have hle := p.len_le h0
      have hlen := v.len
      have gr := graph g h0
      obtain ⟨rk, iv⟩ := p.st.ivs gr (fun x hx => Rch.lt hx) p.ne p.no
      by_cases hm : nr g ≤ L.length
      · refine ⟨[], Nat.zero_le _, by simp, ⟨fun h => nr_cyc h, fun h => nr_one (iv.single gr (fun x hx => Rch.lt hx) h (p.single h0 hm))⟩, fun out _ => ⟨K + 1, fun k hk => ?_⟩⟩
        obtain ⟨k, rfl⟩ : ∃ m, k = m + 1 := ⟨k - 1, by omega⟩
        simp only [inter_Tower.l0]
        rw [e k (by omega)]
        simp only [Option.bind_some]
        rw [if_pos (by omega)]
        simp [toI]
      · obtain ⟨hR, hP⟩ := v.pre p h0 hlen
        have smD := v.small (by omega)
        have hnD : nr D = L.length := by
          have := nr_of (next := D) (T := List.range L.length) (nodup_range _) fun x => by rw [List.mem_range, hR]
          rw [← this, List.length_range]
        obtain ⟨l, h1, h2, h3, h4⟩ := ih D smD (by omega) (by omega)
        rw [hnD] at h2 h3 h4
        refine ⟨L.length :: l, by simp only [List.length_cons]; omega, ?_, ?_, fun out ho => ?_⟩
        · refine List.pairwise_cons.mpr ⟨fun x hx => ?_, h2⟩
          rcases List.mem_cons.mp hx with ex | hx
          · rw [ex]; omega
          · have := (List.pairwise_cons.mp h2).1 x hx
            omega
        · show lst L.length l ≤ 1 ↔ _
          rw [h3, cyc_congr hP, iv.cyc gr]
        · obtain ⟨K2, e2⟩ := h4 (out ++ [(L.length : Int)]) (by rw [List.length_append, List.length_singleton]; omega)
          simp only at e2
          refine ⟨max K K2 + 1, fun k hk => ?_⟩
          obtain ⟨k, rfl⟩ : ∃ m, k = m + 1 := ⟨k - 1, by omega⟩
          simp only [inter_Tower.l0]
          rw [e k (by omega)]
          simp only [Option.bind_some]
          rw [if_neg (by omega), if_pos (by omega), hlen, e2 k (by omega)]
          simp [toI]
theorem order_nr (next : List (List Int)) (sm : Small next) : ∃ r : List Int, dom_Order.f next = some r ∧ r.length = nr next := by
  by_cases h0 : next.length = 0
  · obtain rfl : next = [] := List.eq_nil_of_length_eq_zero h0
    have := nr_le (next := [])
    simp only [List.length_nil] at this
    refine ⟨[], rfl, ?_⟩
    simp only [List.length_nil]; omega
  · obtain ⟨T, o, e⟩ := order_some next sm (by omega)
    refine ⟨_, e, ?_⟩
    rw [List.length_map]
    exact nr_of o.nd o.mem
/-- What the tower and Reducible answer. -/
theorem reducible_ev (next : List (List Int)) (sm : Small next) : ∃ l : List Nat, l.length ≤ 1000 ∧ (nr next :: l).Pairwise (· > ·) ∧ (lst (nr next) l ≤ 1 ↔ ¬ Cyc (pre next)) ∧ Ev (fun k => inter_Tower.f k next) (toI (nr next :: l)) ∧ Ev (fun k => inter_Reducible.f k next) (decide (lst (nr next) l ≤ 1)) := by
  obtain ⟨r, e, hr⟩ := order_nr next sm
  have hnl := nr_le (next := next)
  have hn := sm.1
  obtain ⟨l, h1, h2, h3, h4⟩ := tower_ev 1000 next sm (by omega) (Nat.le_refl _)
  obtain ⟨K, g⟩ := h4 [(nr next : Int)] (by simp)
  simp only at g
  have ht : ∀ k, K ≤ k → inter_Tower.f k next = some (toI (nr next :: l)) := by
    intro k hk
    simp only [inter_Tower.f]
    rw [e]
    simp only [Option.bind_some]
    rw [hr, g k hk]
    simp [toI]
  refine ⟨l, h1, h2, h3, ⟨K, ht⟩, ⟨K, fun k hk => ?_⟩⟩
  simp only [inter_Reducible.f]
  rw [ht k hk]
  simp only [Option.bind_some]
  have hlen : (toI (nr next :: l)).length = l.length + 1 := by simp [toI]
  have hw : wrap64 (((toI (nr next :: l)).length : Int) - 1) = (l.length : Int) := by rw [hlen, w64_of (by omega) (by omega)]; omega
  rw [hw, if_pos (by omega), if_pos (by omega), PitInterParts.rd_nat, lst_get]
  congr 1
  rw [decide_eq_decide]
  omega
theorem awake_ev : Ev (fun k => ladderbacklaw34_awake.f k) true := by
  have sm1 : Small [[1, 2], [2], [1]] := ⟨by decide, fun i => by
    match i with
    | 0 => decide
    | 1 => decide
    | 2 => decide
    | i + 3 => simp [List.getD_eq_getElem?_getD]⟩
  have sm2 : Small [[1], [0]] := ⟨by decide, fun i => by
    match i with
    | 0 => decide
    | 1 => decide
    | i + 2 => simp [List.getD_eq_getElem?_getD]⟩
  have sm3 : Small [[]] := ⟨by decide, fun i => by
    match i with
    | 0 => decide
    | i + 1 => simp [List.getD_eq_getElem?_getD]⟩
  obtain ⟨l1, _, _, h1, _, ⟨K1, g1⟩⟩ := reducible_ev _ sm1
  obtain ⟨l2, _, _, h2, _, ⟨K2, g2⟩⟩ := reducible_ev _ sm2
  obtain ⟨L, of, D, p, _, _, ⟨K3, g3⟩, _⟩ := derive_ev sm3 (by decide)
  simp only at g1 g2 g3
  have c1 : Cyc (pre [[1, 2], [2], [1]]) := by
    have r0 : Rch [[1, 2], [2], [1]] 0 := .root (by decide)
    have e01 : E [[1, 2], [2], [1]] 0 1 := ⟨by decide, by decide⟩
    have e02 : E [[1, 2], [2], [1]] 0 2 := ⟨by decide, by decide⟩
    have e12 : E [[1, 2], [2], [1]] 1 2 := ⟨by decide, by decide⟩
    have e21 : E [[1, 2], [2], [1]] 2 1 := ⟨by decide, by decide⟩
    have r1 : Rch [[1, 2], [2], [1]] 1 := .step r0 e01
    have r2 : Rch [[1, 2], [2], [1]] 2 := .step r0 e02
    exact ⟨1, .more (.one ⟨⟨r1, e12⟩, .step (.root (by decide)) ⟨r0, e01⟩ (by decide)⟩) ⟨⟨r2, e21⟩, .step (.root (by decide)) ⟨r0, e02⟩ (by decide)⟩⟩
  have c2 : ¬ Cyc (pre [[1], [0]]) := by
    have one : ∀ a b, F (pre [[1], [0]]) a b → a = 0 ∧ b = 1 := by
      rintro a b ⟨⟨hR, hm, hl⟩, hav⟩
      have hb : b = 0 ∨ b = 1 := by simp only [List.length_cons, List.length_nil] at hl; omega
      have no0 : ∀ z, ¬ Av (pre [[1], [0]]) 0 z := by
        intro z hz
        induction hz with
        | root h => exact h rfl
        | step _ _ _ ih => exact ih
      rcases hb with e | e
      · rw [e] at hav; exact absurd hav (no0 _)
      · subst e
        refine ⟨?_, rfl⟩
        have hal := Rch.lt hR
        match a, hm, hal with
        | 0, _, _ => rfl
        | 1, hm, _ => exact absurd hm (by decide)
        | a + 2, _, hal => exact absurd hal (by simp only [List.length_cons, List.length_nil]; omega)
    have key : ∀ a b, T (F (pre [[1], [0]])) a b → a = 0 ∧ b = 1 := by
      intro a b ht
      induction ht with
      | one hf => exact one _ _ hf
      | more _ hf ih => have := one _ _ hf; omega
    rintro ⟨x, hx⟩
    have := key x x hx
    omega
  have e1 : decide (lst (nr [[1, 2], [2], [1]]) l1 ≤ 1) = false := decide_eq_false fun h => h1.mp h c1
  have e2 : decide (lst (nr [[1], [0]]) l2 ≤ 1) = true := decide_eq_true (h2.mpr c2)
  have e3 : L.length = 1 := by
    have h3 := p.len_le (by decide)
    have h4 := nr_le (next := [[]])
    have h5 := List.length_pos_iff.mpr p.ne
    simp only [List.length_cons, List.length_nil] at h4
    omega
  refine ⟨max K1 (max K2 K3), fun k hk => ?_⟩
  simp only [ladderbacklaw34_awake.f]
  rw [g1 k (by omega)]
  simp only [Option.bind_some]
  rw [e1, if_neg (by decide), g2 k (by omega)]
  simp only [Option.bind_some]
  rw [e2, if_pos rfl, g3 k (by omega)]
  simp only [Option.bind_some]
  have : (toL L).length = 1 := by simp [toL, e3]
  rw [this]
  rfl
end Go.Proofs.Ytfiffhcpgojkhaa.PivInterParts
