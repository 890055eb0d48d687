/- pdom.Turned and what it calls: the graph turned about; plain. No condition but that the graph is small. -/
import Derived.Test.YtfiffhcpgojkhaaQPdomNextx
import Derived.Test.YtfiffhcpgojkhaaPdB
import Derived.Test.YtfiffhcpgojkhaaDomQ
namespace Go.Proofs.Ytfiffhcpgojkhaa.PdtPdomNext
open Go.Proofs.Ytfiffhcpgojkhaa Go.Proofs.Ytfiffhcpgojkhaa.QPdomNext Go.Proofs.Ytfiffhcpgojkhaa.PdB Go.Proofs.Ytfiffhcpgojkhaa.DomA Go.Proofs.Ytfiffhcpgojkhaa.DomF Go.Proofs.Ytfiffhcpgojkhaa.DomP Go.RowKit Go.Proofs.YtfiffhcpgojkhaaW.PrintWords Go.Proofs.YtfiffhcpgojkhaaW.PrintLast Go.Proofs.YtfiffhcpgojkhaaW.PrintMore
set_option linter.unusedSimpArgs false
set_option linter.unusedVariables false
theorem rdL1_eq (xs : List (List Int)) (i : Nat) : rd_L1 xs (i : Int) = xs.getD i [] := by simp [rd_L1]
theorem rdLn (xs : List (List Int)) (i : Nat) : rdL xs (i : Int) = xs.getD i [] := by simp [rdL]
/-- Membership. -/
theorem has_ev (l : List Int) (x : Int) (hl : l.length < 4611686018427387904) : Ev (fun k => ladderbackref30_Has.f k l x) (decide (x ∈ l)) := by
  have key : ∀ r i : Nat, i + r = l.length → Ev (fun k => ladderbackref30_Has.l0 k l x (i : Int)) (decide (x ∈ l.drop i)) := by
    intro r
    induction r with
    | zero =>
      intro i hi
      refine ⟨1, fun k hk => ?_⟩
      obtain ⟨k, rfl⟩ : ∃ m, k = m + 1 := ⟨k - 1, by omega⟩
      simp only [ladderbackref30_Has.l0]
      rw [if_neg (by omega), List.drop_eq_nil_of_le (by omega)]
      simp
    | succ r ih =>
      intro i hi
      obtain ⟨K, g⟩ := ih (i + 1) (by omega)
      simp only at g
      refine ⟨K + 1, fun k hk => ?_⟩
      obtain ⟨k, rfl⟩ : ∃ m, k = m + 1 := ⟨k - 1, by omega⟩
      simp only [ladderbackref30_Has.l0]
      rw [if_pos (by omega), if_pos (by omega), drop_rd l i (by omega)]
      by_cases e : rd l (i : Int) = x
      · rw [if_pos e]; simp [e]
      · rw [if_neg e, wnext i (by omega)]
        have h2 := g k (by omega)
        rw [h2]
        have e2 : ¬ x = rd l (i : Int) := fun h => e h.symm
        simp [e2]
  obtain ⟨K, g⟩ := key l.length 0 (by omega)
  simp only [List.drop_zero] at g
  exact ⟨K, fun k hk => by simp only [ladderbackref30_Has.f]; exact g k hk⟩
/-- The places of a list that there are. -/
theorem there_ev (l : List Int) (n : Nat) (hl : l.length ≤ 1000) : Ev (fun k => pdom_there.f k l (n : Int)) (l.filter fun c => decide (0 ≤ c ∧ c < (n : Int))) := by
  have key : ∀ (r i : Nat) (out : List Int), i + r = l.length → out.length ≤ i → Ev (fun k => pdom_there.l0 k (n : Int) out l (l.length : Int) (i : Int)) (out ++ (l.drop i).filter fun c => decide (0 ≤ c ∧ c < (n : Int))) := by
    intro r
    induction r with
    | zero =>
      intro i out hi ho
      refine ⟨1, fun k hk => ?_⟩
      obtain ⟨k, rfl⟩ : ∃ m, k = m + 1 := ⟨k - 1, by omega⟩
      simp only [pdom_there.l0]
      rw [if_neg (by omega), List.drop_eq_nil_of_le (by omega)]
      simp
    | succ r ih =>
      intro i out hi ho
      have hd := drop_rd l i (by omega)
      by_cases e : 0 ≤ rd l (i : Int) ∧ rd l (i : Int) < (n : Int)
      · obtain ⟨K, g⟩ := ih (i + 1) (out ++ [rd l (i : Int)]) (by omega) (by simpa using ho)
        simp only at g
        refine ⟨K + 1, fun k hk => ?_⟩
        obtain ⟨k, rfl⟩ : ∃ m, k = m + 1 := ⟨k - 1, by omega⟩
        simp only [pdom_there.l0]
        rw [if_pos (by omega), if_pos (by omega), if_pos (by omega), if_pos e.1, if_pos e.2, if_pos (by omega), wnext i (by omega), g k (by omega), hd]
        simp [e]
      · obtain ⟨K, g⟩ := ih (i + 1) out (by omega) (by omega)
        simp only at g
        refine ⟨K + 1, fun k hk => ?_⟩
        obtain ⟨k, rfl⟩ : ∃ m, k = m + 1 := ⟨k - 1, by omega⟩
        simp only [pdom_there.l0]
        rw [if_pos (by omega), if_pos (by omega), if_pos (by omega), wnext i (by omega), g k (by omega), hd, List.filter_cons_of_neg (by simpa using e)]
        by_cases e1 : rd l (i : Int) ≥ 0
        · rw [if_pos e1, if_neg (fun h => e ⟨e1, h⟩)]
        · rw [if_neg e1]
  obtain ⟨K, g⟩ := key l.length 0 [] (by omega) (by simp)
  simp only [List.drop_zero, List.nil_append] at g
  exact ⟨K, fun k hk => by simp only [pdom_there.f]; exact g k hk⟩
/-- The rows behind the places below i, and those of L of i. -/
structure PI (next : List (List Int)) (i : Nat) (L : List Int) (Q : List (List Int)) : Prop where
  len : Q.length = next.length
  mem : ∀ k, k < next.length → ∀ x : Int, x ∈ Q.getD k [] ↔ (∃ j : Nat, j < i ∧ x = (j : Int) ∧ (k : Int) ∈ next.getD j []) ∨ (x = (i : Int) ∧ (k : Int) ∈ L)
  short : ∀ k, (Q.getD k []).length ≤ 40 * i + L.length
theorem PI.skip {next : List (List Int)} {i : Nat} {L : List Int} {Q : List (List Int)} (h : PI next i L Q) (c : Int) (hc : ¬ (0 ≤ c ∧ c < (next.length : Int))) : PI next i (L ++ [c]) Q := by
  refine ⟨h.len, fun k hk x => ?_, fun k => by have := h.short k; simp only [List.length_append, List.length_cons]; omega⟩
  rw [h.mem k hk x]
  have e : ¬ (k : Int) = c := by omega
  simp only [List.mem_append, List.mem_singleton, e, or_false]
theorem PI.skip2 {next : List (List Int)} {i : Nat} {L : List Int} {Q : List (List Int)} (h : PI next i L Q) (c : Nat) (hc : c < next.length) (hm : (i : Int) ∈ Q.getD c []) : PI next i (L ++ [(c : Int)]) Q := by
  refine ⟨h.len, fun k hk x => ?_, fun k => by have := h.short k; simp only [List.length_append, List.length_cons]; omega⟩
  rw [h.mem k hk x]
  simp only [List.mem_append, List.mem_singleton]
  constructor
  · rintro (h1 | ⟨h1, h2⟩)
    · exact Or.inl h1
    · exact Or.inr ⟨h1, Or.inl h2⟩
  · rintro (h1 | ⟨h1, h2 | h2⟩)
    · exact Or.inl h1
    · exact Or.inr ⟨h1, h2⟩
    · have e : k = c := by omega
      subst e
      subst h1
      exact (h.mem k hk _).mp hm
theorem PI.app {next : List (List Int)} {i : Nat} {L : List Int} {Q : List (List Int)} (h : PI next i L Q) (c : Nat) (hc : c < next.length) : PI next i (L ++ [(c : Int)]) (Q.set c (Q.getD c [] ++ [(i : Int)])) := by
  have hl := h.len
  refine ⟨by simpa using hl, fun k hk x => ?_, fun k => ?_⟩
  · rw [getDl_set _ _ _ _ (by omega)]
    simp only [List.mem_append, List.mem_singleton]
    by_cases e : k = c
    · subst e
      rw [if_pos rfl, List.mem_append, h.mem k hk x, List.mem_singleton]
      constructor
      · rintro ((h1 | ⟨h1, h2⟩) | h1)
        · exact Or.inl h1
        · exact Or.inr ⟨h1, Or.inl h2⟩
        · exact Or.inr ⟨h1, Or.inr rfl⟩
      · rintro (h1 | ⟨h1, h2⟩)
        · exact Or.inl (Or.inl h1)
        · exact Or.inr h1
    · rw [if_neg e, h.mem k hk x]
      have e2 : ¬ (k : Int) = (c : Int) := by omega
      simp only [e2, or_false]
  · rw [getDl_set _ _ _ _ (by omega)]
    have := h.short k
    split
    · rename_i e; subst e; simp only [List.length_append, List.length_cons, List.length_nil]; omega
    · simp only [List.length_append, List.length_cons, List.length_nil]; omega
theorem PI.next {next : List (List Int)} {i : Nat} {Q : List (List Int)} (h : PI next i (next.getD i []) Q) (hf : (next.getD i []).length ≤ 40) : PI next (i + 1) [] Q := by
  refine ⟨h.len, fun k hk x => ?_, fun k => by have := h.short k; simp only [List.length_nil]; omega⟩
  rw [h.mem k hk x]
  constructor
  · rintro (⟨j, h1, h2⟩ | ⟨h1, h2⟩)
    · exact Or.inl ⟨j, by omega, h2⟩
    · exact Or.inl ⟨i, by omega, h1, h2⟩
  · rintro (⟨j, h1, h2, h3⟩ | ⟨_, h2⟩)
    · by_cases e : j = i
      · subst e; exact Or.inr ⟨h2, h3⟩
      · exact Or.inl ⟨j, by omega, h2, h3⟩
    · cases h2
theorem rd_mem (l : List Int) (i : Nat) (h : i < l.length) : rd l (i : Int) ∈ l := by
  have : rd l (i : Int) = l[i] := by simp [rd, h]
  rw [this]
  exact List.getElem_mem _
theorem take_rd (l : List Int) (j : Nat) (h : j < l.length) : l.take (j + 1) = l.take j ++ [rd l (j : Int)] := by
  have : rd l (j : Int) = l[j] := by simp [rd, h]
  rw [this, List.take_append_getElem]
theorem preds_in (next : List (List Int)) (hn : next.length ≤ 24) (hf : ∀ i, (next.getD i []).length ≤ 40) (i : Nat) (hi : i < next.length)
    (goon : ∀ Q, PI next (i + 1) [] Q → ∃ R, Ev (fun k => flow_Preds.l0 k next Q next (next.length : Int) ((i + 1 : Nat) : Int)) R ∧ PI next next.length [] R) :
    ∀ (r j : Nat) (Q : List (List Int)), j + r = (next.getD i []).length → PI next i ((next.getD i []).take j) Q → ∃ R, Ev (fun k => flow_Preds.l1 k next Q (i : Int) next (next.length : Int) (i : Int) (next.getD i []) ((next.getD i []).length : Int) (j : Int)) R ∧ PI next next.length [] R := by
  have hfi := hf i
  intro r
  induction r with
  | zero =>
    intro j Q hj h
    obtain rfl : j = (next.getD i []).length := by omega
    rw [List.take_length] at h
    obtain ⟨R, ⟨K, g⟩, hR⟩ := goon Q (h.next hfi)
    simp only at g
    refine ⟨R, ⟨K + 1, fun k hk => ?_⟩, hR⟩
    obtain ⟨k, rfl⟩ : ∃ m, k = m + 1 := ⟨k - 1, by omega⟩
    simp only [flow_Preds.l1]
    rw [if_neg (by omega), wnext i (by omega)]
    exact g k (by omega)
  | succ r ih =>
    intro j Q hj h
    have ht := take_rd (next.getD i []) j (by omega)
    have goj : ∀ Q', PI next i ((next.getD i []).take j ++ [rd (next.getD i []) (j : Int)]) Q' → ∃ R, Ev (fun k => flow_Preds.l1 k next Q' (i : Int) next (next.length : Int) (i : Int) (next.getD i []) ((next.getD i []).length : Int) (wrap64 ((j : Int) + 1))) R ∧ PI next next.length [] R := by
      intro Q' h'
      rw [← ht] at h'
      rw [wnext j (by omega)]
      exact ih (j + 1) Q' (by omega) h'
    generalize hc : rd (next.getD i []) (j : Int) = c at goj
    have hQl := h.len
    by_cases hin : 0 ≤ c ∧ c < (next.length : Int)
    · obtain ⟨c, rfl⟩ : ∃ m : Nat, c = (m : Int) := ⟨c.toNat, by omega⟩
      have hcl : c < next.length := by omega
      have hsh := h.short c
      have hlt : (Q.getD c []).length ≤ 1100 := by
        have h1 : ((next.getD i []).take j).length ≤ 40 := by rw [List.length_take]; omega
        omega
      by_cases hmem : (Q.getD c []).length ≠ 0 ∧ rd (Q.getD c []) (((Q.getD c []).length - 1 : Nat) : Int) = (i : Int)
      · obtain ⟨R, ⟨K, g⟩, hR⟩ := goj Q (h.skip2 c hcl (by rw [← hmem.2]; exact rd_mem _ _ (by omega)))
        simp only at g
        refine ⟨R, ⟨K + 1, fun k hk => ?_⟩, hR⟩
        obtain ⟨k, rfl⟩ : ∃ m, k = m + 1 := ⟨k - 1, by omega⟩
        simp only [flow_Preds.l1]
        rw [if_pos (by omega), if_pos (by omega), if_pos (by omega), hc, if_pos (by omega), if_pos (by omega), if_pos (by omega), if_pos (by omega), rdL1_eq, if_neg (by omega)]
        have e1 : wrap64 (((Q.getD c []).length : Int) - 1) = (((Q.getD c []).length - 1 : Nat) : Int) := by rw [w64_of (by omega) (by omega)]; omega
        rw [e1, if_pos (by omega), if_pos (by omega), if_pos hmem.2]
        exact g k (by omega)
      · obtain ⟨R, ⟨K, g⟩, hR⟩ := goj _ (h.app c hcl)
        simp only at g
        refine ⟨R, ⟨K + 1, fun k hk => ?_⟩, hR⟩
        obtain ⟨k, rfl⟩ : ∃ m, k = m + 1 := ⟨k - 1, by omega⟩
        simp only [flow_Preds.l1]
        rw [if_pos (by omega), if_pos (by omega), if_pos (by omega), hc, if_pos (by omega), if_pos (by omega), if_pos (by omega), if_pos (by omega), rdL1_eq]
        by_cases h0 : (Q.getD c []).length = 0
        · rw [if_pos (by omega), if_pos (by omega), Int.toNat_natCast]
          exact g k (by omega)
        · rw [if_neg (by omega)]
          have e1 : wrap64 (((Q.getD c []).length : Int) - 1) = (((Q.getD c []).length - 1 : Nat) : Int) := by rw [w64_of (by omega) (by omega)]; omega
          rw [e1, if_pos (by omega), if_pos (by omega), if_neg (fun e => hmem ⟨h0, e⟩), if_pos (by omega), Int.toNat_natCast]
          exact g k (by omega)
    · obtain ⟨R, ⟨K, g⟩, hR⟩ := goj Q (h.skip c hin)
      simp only at g
      refine ⟨R, ⟨K + 1, fun k hk => ?_⟩, hR⟩
      obtain ⟨k, rfl⟩ : ∃ m, k = m + 1 := ⟨k - 1, by omega⟩
      simp only [flow_Preds.l1]
      rw [if_pos (by omega), if_pos (by omega), if_pos (by omega), hc]
      by_cases e1 : c ≥ 0
      · rw [if_pos e1, if_neg (fun h => hin ⟨e1, h⟩)]
        exact g k (by omega)
      · rw [if_neg e1]
        exact g k (by omega)
theorem preds_ev (next : List (List Int)) (hn : next.length ≤ 24) (hf : ∀ i, (next.getD i []).length ≤ 40) : ∃ Q, Ev (fun k => flow_Preds.f k next) Q ∧ PI next next.length [] Q := by
  have key : ∀ (r i : Nat) (Q : List (List Int)), i + r = next.length → PI next i [] Q → ∃ R, Ev (fun k => flow_Preds.l0 k next Q next (next.length : Int) (i : Int)) R ∧ PI next next.length [] R := by
    intro r
    induction r with
    | zero =>
      intro i Q hi h
      obtain rfl : i = next.length := by omega
      refine ⟨Q, ⟨1, fun k hk => ?_⟩, h⟩
      obtain ⟨k, rfl⟩ : ∃ m, k = m + 1 := ⟨k - 1, by omega⟩
      simp only [flow_Preds.l0]
      rw [if_neg (by omega)]
    | succ r ih =>
      intro i Q hi h
      obtain ⟨R, ⟨K, g⟩, hR⟩ := preds_in next hn hf i (by omega) (fun Q' h' => ih (i + 1) Q' (by omega) h') _ 0 Q (Nat.zero_add _) (by rw [List.take_zero]; exact h)
      simp only at g
      refine ⟨R, ⟨K + 1, fun k hk => ?_⟩, hR⟩
      obtain ⟨k, rfl⟩ : ∃ m, k = m + 1 := ⟨k - 1, by omega⟩
      simp only [flow_Preds.l0]
      rw [if_pos (by omega), if_pos (by omega), if_pos (by omega), rdL1_eq]
      exact g k (by omega)
  have hrep : ∀ k, (List.replicate next.length ([] : List Int)).getD k [] = [] := fun k => by by_cases h : k < next.length <;> simp [List.getD_eq_getElem?_getD, h]
  obtain ⟨R, ⟨K, g⟩, hR⟩ := key next.length 0 (List.replicate next.length []) (by omega) ⟨by simp, fun k hk x => by rw [hrep]; simp, fun k => by rw [hrep]; simp⟩
  simp only at g
  refine ⟨R, ⟨K, fun k hk => ?_⟩, hR⟩
  simp only [flow_Preds.f]
  rw [if_pos (by omega), if_pos (by omega), Int.toNat_natCast]
  exact g k hk
/-- The graph turned about. -/
structure Tn (next T : List (List Int)) : Prop where
  len : T.length = next.length + 1
  end_ : ∀ x : Int, x ∈ T.getD 0 [] ↔ ∃ i : Nat, i < next.length ∧ x = (i : Int) + 1 ∧ ∀ c ∈ next.getD i [], ¬ (0 ≤ c ∧ c < (next.length : Int))
  at_ : ∀ k, k < next.length → ∀ x : Int, x ∈ T.getD (k + 1) [] ↔ ∃ i : Nat, i < next.length ∧ x = (i : Int) + 1 ∧ (k : Int) ∈ next.getD i []
  short : ∀ k, (T.getD k []).length ≤ 1000
theorem turn1_ev (next : List (List Int)) (hn : next.length ≤ 24) (hf : ∀ i, (next.getD i []).length ≤ 40) : ∀ (r i : Nat) (P : List (List Int)), i + r = next.length → P.length = next.length + 1 → (∀ x : Int, x ∈ P.getD 0 [] ↔ ∃ j : Nat, j < i ∧ x = (j : Int) + 1 ∧ ∀ c ∈ next.getD j [], ¬ (0 ≤ c ∧ c < (next.length : Int))) → (P.getD 0 []).length ≤ i → (∀ k, P.getD (k + 1) [] = []) →
    ∃ R, Ev (fun k => turn1F k (next.length : Int) (next.drop i) i P) R ∧ R.length = next.length + 1 ∧ (∀ x : Int, x ∈ R.getD 0 [] ↔ ∃ j : Nat, j < next.length ∧ x = (j : Int) + 1 ∧ ∀ c ∈ next.getD j [], ¬ (0 ≤ c ∧ c < (next.length : Int))) ∧ (R.getD 0 []).length ≤ next.length ∧ ∀ k, R.getD (k + 1) [] = [] := by
  intro r
  induction r with
  | zero =>
    intro i P hi h1 h2 h3 h4
    obtain rfl : i = next.length := by omega
    exact ⟨P, ⟨0, fun k _ => by rw [List.drop_length]; rfl⟩, h1, h2, h3, h4⟩
  | succ r ih =>
    intro i P hi h1 h2 h3 h4
    have hd : next.drop i = next.getD i [] :: next.drop (i + 1) := by
      rw [List.drop_eq_getElem_cons (by omega)]
      simp [List.getD_eq_getElem?_getD, show i < next.length by omega]
    obtain ⟨K1, g1⟩ := there_ev (next.getD i []) next.length (by have := hf i; omega)
    simp only at g1
    generalize ht : (List.filter (fun c => decide (0 ≤ c ∧ c < (next.length : Int))) (next.getD i [])) = t at g1
    have hP0 : rdL P 0 = P.getD 0 [] := rfl
    by_cases h0 : t.length = 0
    · have hno : ∀ c ∈ next.getD i [], ¬ (0 ≤ c ∧ c < (next.length : Int)) := by
        have e : t = [] := List.eq_nil_of_length_eq_zero h0
        rw [e, List.filter_eq_nil_iff] at ht
        intro c hc
        have := ht c hc
        simpa using this
      obtain ⟨R, ⟨K2, g2⟩, q1⟩ := ih (i + 1) (P.set 0 (P.getD 0 [] ++ [(i : Int) + 1])) (by omega) (by simpa using h1) (fun x => by
        rw [getDl_set _ _ _ _ (by omega), if_pos rfl, List.mem_append, h2 x, List.mem_singleton]
        constructor
        · rintro (⟨j, a, b, c⟩ | h)
          · exact ⟨j, by omega, b, c⟩
          · exact ⟨i, by omega, h, hno⟩
        · rintro ⟨j, a, b, c⟩
          by_cases e : j = i
          · subst e; exact Or.inr b
          · exact Or.inl ⟨j, by omega, b, c⟩) (by
        rw [getDl_set _ _ _ _ (by omega), if_pos rfl, List.length_append, List.length_singleton]; omega) (fun k => by
        rw [getDl_set _ _ _ _ (by omega), if_neg (by omega)]; exact h4 k)
      simp only at g2
      refine ⟨R, ⟨max K1 K2, fun k hk => ?_⟩, q1⟩
      rw [hd]
      simp only [turn1F]
      rw [g1 k (by omega)]
      simp only [Option.bind_some]
      rw [if_pos h0, if_pos (by rw [hP0]; omega), hP0, w64_of (by omega) (by omega)]
      exact g2 k (by omega)
    · have hyes : ¬ ∀ c ∈ next.getD i [], ¬ (0 ≤ c ∧ c < (next.length : Int)) := by
        intro h
        apply h0
        have : List.filter (fun c => decide (0 ≤ c ∧ c < (next.length : Int))) (next.getD i []) = [] := by
          rw [List.filter_eq_nil_iff]
          intro c hc
          simpa using h c hc
        rw [← ht, this]
        rfl
      obtain ⟨R, ⟨K2, g2⟩, q1⟩ := ih (i + 1) P (by omega) h1 (fun x => by
        rw [h2 x]
        constructor
        · rintro ⟨j, a, b, c⟩
          exact ⟨j, by omega, b, c⟩
        · rintro ⟨j, a, b, c⟩
          by_cases e : j = i
          · subst e; exact absurd c hyes
          · exact ⟨j, by omega, b, c⟩) (by omega) h4
      simp only at g2
      refine ⟨R, ⟨max K1 K2, fun k hk => ?_⟩, q1⟩
      rw [hd]
      simp only [turn1F]
      rw [g1 k (by omega)]
      simp only [Option.bind_some]
      rw [if_neg h0]
      exact g2 k (by omega)
theorem turn2I_spec (i : Nat) : ∀ (cs : List Int) (P : List (List Int)), i < P.length → (P.getD i []).length + cs.length < 17592186044416 → (∀ c ∈ cs, 0 ≤ c ∧ c < 1000) →
    turn2I (i : Int) cs P = some (P.set i (P.getD i [] ++ cs.map fun c => c + 1)) := by
  intro cs
  induction cs with
  | nil => intro P hi _ _; simp [turn2I, List.getD_eq_getElem?_getD, hi]
  | cons c cs ih =>
    intro P hi hb hc
    have h1 := hc c List.mem_cons_self
    simp only [List.length_cons] at hb
    simp only [turn2I]
    rw [rdLn, if_pos (by omega), Int.toNat_natCast, w64_of (by omega) (by omega)]
    rw [ih _ (by simpa using hi) (by rw [getDl_set _ _ _ _ hi, if_pos rfl, List.length_append, List.length_singleton]; omega) (fun c' h' => hc c' (List.mem_cons_of_mem _ h')), getDl_set _ _ _ _ hi, if_pos rfl]
    simp
theorem turn2_spec (n : Nat) (hn : n ≤ 1000) : ∀ (B A : List (List Int)) (P : List (List Int)), (A ++ B).length + 1 = n → P.length = n → (∀ q ∈ B, q.length ≤ 1000 ∧ ∀ c ∈ q, 0 ≤ c ∧ c < 1000) → (∀ k, A.length ≤ k → P.getD (k + 1) [] = []) →
    ∃ R, turn2F n B A.length P = some R ∧ R.length = n ∧ R.getD 0 [] = P.getD 0 [] ∧ (∀ k, k < A.length → R.getD (k + 1) [] = P.getD (k + 1) []) ∧ ∀ k, R.getD (A.length + k + 1) [] = (B.getD k []).map fun c => c + 1 := by
  intro B
  induction B with
  | nil =>
    intro A P hA hP hB h0
    exact ⟨P, rfl, hP, rfl, fun _ _ => rfl, fun k => by rw [h0 _ (by omega)]; simp⟩
  | cons q B ih =>
    intro A P hA hP hB h0
    obtain ⟨hq, hc⟩ := hB q List.mem_cons_self
    have hlA : A.length + 1 < P.length := by simp only [List.length_append, List.length_cons] at hA; omega
    have e0 := h0 A.length (Nat.le_refl _)
    obtain ⟨R, h1, h2, h3, h4, h5⟩ := ih (A ++ [q]) (P.set (A.length + 1) (P.getD (A.length + 1) [] ++ q.map fun c => c + 1)) (by simpa using hA) (by simpa using hP) (fun q' h' => hB q' (List.mem_cons_of_mem _ h')) (fun k hk => by
      rw [List.length_append, List.length_singleton] at hk
      rw [getDl_set _ _ _ _ hlA, if_neg (by omega)]
      exact h0 k (by omega))
    rw [List.length_append, List.length_singleton] at h1 h4 h5
    refine ⟨R, ?_, h2, ?_, fun k hk => ?_, fun k => ?_⟩
    · simp only [turn2F]
      rw [wnext A.length (by omega), if_pos ⟨by omega, by omega, by omega⟩, turn2I_spec (A.length + 1) q P hlA (by rw [e0]; simp only [List.length_nil]; omega) hc]
      simp only [Option.bind_some]
      exact h1
    · rw [h3, getDl_set _ _ _ _ hlA, if_neg (by omega)]
    · rw [h4 k (by omega), getDl_set _ _ _ _ hlA, if_neg (by omega)]
    · cases k with
      | zero =>
        rw [show A.length + 0 + 1 = A.length + 1 by omega, h4 A.length (by omega), getDl_set _ _ _ _ hlA, if_pos rfl, e0]
        simp
      | succ k =>
        have := h5 k
        rw [show A.length + 1 + k + 1 = A.length + (k + 1) + 1 by omega] at this
        rw [this]
        simp
theorem turned_ev (next : List (List Int)) (hn : next.length ≤ 20) (hf : ∀ i, (next.getD i []).length ≤ 40) : ∃ T, Ev (fun k => pdom_Turned.f k next) T ∧ Tn next T := by
  obtain ⟨Q, ⟨K1, g1⟩, pi⟩ := preds_ev next (by omega) hf
  have hrep : ∀ k, (List.replicate (next.length + 1) ([] : List Int)).getD k [] = [] := fun k => by by_cases h : k < next.length + 1 <;> simp [List.getD_eq_getElem?_getD, h]
  obtain ⟨P, ⟨K2, g2⟩, p1, p2, p3, p4⟩ := turn1_ev next (by omega) hf next.length 0 (List.replicate (next.length + 1) []) (by omega) (by simp) (fun x => by rw [hrep]; simp) (by rw [hrep]; simp) (fun k => hrep _)
  have hQl := pi.len
  have hshort : ∀ k, (Q.getD k []).length ≤ 800 := fun k => by have := pi.short k; simp only [List.length_nil] at this; omega
  have hQ : ∀ q ∈ Q, q.length ≤ 1000 ∧ ∀ c ∈ q, 0 ≤ c ∧ c < 1000 := by
    intro q hq
    obtain ⟨k, hk, rfl⟩ := List.getElem_of_mem hq
    have e : Q.getD k [] = Q[k] := by simp [List.getD_eq_getElem?_getD, hk]
    have h1 := hshort k
    rw [e] at h1
    refine ⟨by omega, fun c hc => ?_⟩
    rw [← e] at hc
    rcases (pi.mem k (by omega) c).mp hc with ⟨j, a, b, _⟩ | ⟨_, h⟩
    · omega
    · cases h
  obtain ⟨R, r1, r2, r3, r4, r5⟩ := turn2_spec (next.length + 1) (by omega) Q [] P (by simp only [List.nil_append]; omega) p1 hQ (fun k _ => p4 k)
  simp only at g1 g2
  refine ⟨R, ⟨max K1 K2, fun k hk => ?_⟩, r2, fun x => by rw [r3]; exact p2 x, fun k hk x => ?_, fun k => ?_⟩
  · simp only [pdom_Turned.f]
    have h2 := g2 k (by omega)
    rw [List.drop_zero] at h2
    rw [if_pos (by omega), h2]
    simp only [Option.bind_some]
    rw [g1 k (by omega)]
    simp only [Option.bind_some]
    rw [if_pos (by omega)]
    exact r1
  · have := r5 k
    rw [List.length_nil, Nat.zero_add] at this
    rw [this, List.mem_map]
    constructor
    · rintro ⟨c, hc, rfl⟩
      rcases (pi.mem k hk c).mp hc with ⟨j, a, b, d⟩ | ⟨_, h⟩
      · exact ⟨j, a, by omega, d⟩
      · cases h
    · rintro ⟨i, a, b, d⟩
      exact ⟨(i : Int), (pi.mem k hk _).mpr (Or.inl ⟨i, a, rfl, d⟩), b.symm⟩
  · cases k with
    | zero => rw [r3]; omega
    | succ k =>
      have := r5 k
      rw [List.length_nil, Nat.zero_add] at this
      rw [this, List.length_map]
      have := hshort k
      omega
end Go.Proofs.Ytfiffhcpgojkhaa.PdtPdomNext
