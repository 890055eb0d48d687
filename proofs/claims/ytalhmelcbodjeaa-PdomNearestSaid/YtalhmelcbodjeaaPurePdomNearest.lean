/- PdomNearest: any graph turned about, which places end, and each one's nearest postdominator; plain. No condition. -/
import Derived.Test.YtalhmelcbodjeaaPdvPdomNearest
import Derived.Test.YtalhmelcbodjeaaPdfPdomNearest
import Derived.Test.YtalhmelcbodjeaaPdnPdomNearest
namespace Go.Proofs.Ytalhmelcbodjeaa.Pure
open Go.Proofs.Ytalhmelcbodjeaa Go.Proofs.Ytalhmelcbodjeaa.QPdomNearest Go.Proofs.Ytalhmelcbodjeaa.PdB Go.Proofs.Ytalhmelcbodjeaa.PdtPdomNearest Go.Proofs.Ytalhmelcbodjeaa.PduPdomNearest Go.Proofs.Ytalhmelcbodjeaa.PdvPdomNearest Go.Proofs.Ytalhmelcbodjeaa.PdfPdomNearest Go.Proofs.Ytalhmelcbodjeaa.PdnPdomNearest Go.Proofs.Ytalhmelcbodjeaa.DomA Go.Proofs.Ytalhmelcbodjeaa.DomF Go.Proofs.Ytalhmelcbodjeaa.DomP Go.RowKit Go.Proofs.YtalhmelcbodjeaaW.PrintWords Go.Proofs.YtalhmelcbodjeaaW.PrintLast Go.Proofs.YtalhmelcbodjeaaW.PrintMore
set_option linter.unusedSimpArgs false
set_option linter.unusedVariables false
theorem awake_ev : Ev (fun k => ladderbacklaw32_awake.f k) true := by
  have h0 : pdom_Nearest.f 20 [[1, 2], [3], [3], []] = some [3, 3, 3, 4] := by decide +kernel
  obtain ⟨K, h⟩ := Ev.of (g := fun k => pdom_Nearest.f k [[1, 2], [3], [3], []]) (fun k => pdom_Nearest.mono _ k) h0
  simp only at h
  refine ⟨K, fun k hk => ?_⟩
  simp only [ladderbacklaw32_awake.f]
  rw [h k hk]
  rfl
theorem getDb_set (M : List Bool) (i v : Nat) (b : Bool) (hi : i < M.length) : (M.set i b).getD v false = if v = i then b else M.getD v false := by
  by_cases h : v = i
  · subst h; simp [List.getD_eq_getElem?_getD, hi]
  · rw [if_neg h]; simp [List.getD_eq_getElem?_getD, List.getElem?_set, Ne.symm h]
theorem ends_ev (next : List (List Int)) (hn : next.length ≤ 20) {W : List Int} (hW : W.length = next.length) (hE : Ev (fun k => pdom_Nearest.f k next) W) :
    ∃ E : List Bool, Ev (fun k => pdom_Ends.f k next) E ∧ E.length = next.length ∧ ∀ v, v < next.length → E.getD v false = decide (W.getD v 0 ≥ 0) := by
  have key : ∀ (r i : Nat) (M : List Bool), i + r = next.length → M.length = next.length → (∀ v, v < i → M.getD v false = decide (W.getD v 0 ≥ 0)) →
      ∃ E : List Bool, Ev (fun k => pdom_Ends.l0 k M W (W.length : Int) (i : Int)) E ∧ E.length = next.length ∧ ∀ v, v < next.length → E.getD v false = decide (W.getD v 0 ≥ 0) := by
    intro r
    induction r with
    | zero =>
      intro i M hi hM h
      obtain rfl : i = next.length := by omega
      refine ⟨M, ⟨1, fun k hk => ?_⟩, hM, h⟩
      obtain ⟨k, rfl⟩ : ∃ m, k = m + 1 := ⟨k - 1, by omega⟩
      simp only [pdom_Ends.l0]
      rw [if_neg (by omega)]
    | succ r ih =>
      intro i M hi hM h
      obtain ⟨E, ⟨K, g⟩, h1, h2⟩ := ih (i + 1) (M.set i (decide (rd W (i : Int) ≥ 0))) (by omega) (by simpa using hM) (fun v hv => by
        rw [getDb_set _ _ _ _ (by omega)]
        split
        · rename_i e; subst e; rw [rd_nat]
        · exact h v (by omega))
      simp only at g
      refine ⟨E, ⟨K + 1, fun k hk => ?_⟩, h1, h2⟩
      obtain ⟨k, rfl⟩ : ∃ m, k = m + 1 := ⟨k - 1, by omega⟩
      simp only [pdom_Ends.l0]
      rw [if_pos (by omega), if_pos (by omega), if_pos (by omega), if_pos (by omega), wnext i (by omega), Int.toNat_natCast]
      exact g k (by omega)
  obtain ⟨E, ⟨K, g⟩, h1, h2⟩ := key next.length 0 (List.replicate next.length false) (by omega) (by simp) (fun v hv => by omega)
  obtain ⟨K2, g2⟩ := hE
  simp only at g g2
  refine ⟨E, ⟨max K K2, fun k hk => ?_⟩, h1, h2⟩
  simp only [pdom_Ends.f]
  rw [if_pos (by omega), if_pos (by omega), g2 k (by omega)]
  simp only [Option.bind_some]
  rw [Int.toNat_natCast]
  exact g k (by omega)
theorem loop_ev (next T : List (List Int)) (hn : next.length ≤ 20) (hf : ∀ i, (next.getD i []).length ≤ 40) (tn : Tn next T) {W : List Int} (hW : W.length = next.length) {E : List Bool} (hE : E.length = next.length) (hEW : ∀ v, v < next.length → E.getD v false = decide (W.getD v 0 ≥ 0)) :
    ∀ r i : Nat, i + r = next.length → Ev (fun k => ladderbacklaw32_PdomNearest.l0 k next W E T (endG next) (i : Int)) true := by
  have hTl := tn.len
  have hGl := endG_len next
  intro r
  induction r with
  | zero =>
    intro i hi
    obtain ⟨K, g⟩ := awake_ev
    simp only at g
    refine ⟨K + 1, fun k hk => ?_⟩
    obtain ⟨k, rfl⟩ : ∃ m, k = m + 1 := ⟨k - 1, by omega⟩
    simp only [ladderbacklaw32_PdomNearest.l0]
    rw [if_neg (by omega), g k (by omega)]
    rfl
  | succ r ih =>
    intro i hi
    have hil : i < next.length := by omega
    have inner : ∀ s c : Nat, c + s = next.length → Ev (fun k => ladderbacklaw32_PdomNearest.l1 k next W E T (endG next) (i : Int) (c : Int)) true := by
      intro s
      induction s with
      | zero =>
        intro c hc
        obtain ⟨K, g⟩ := ih (i + 1) (by omega)
        simp only at g
        refine ⟨K + 1, fun k hk => ?_⟩
        obtain ⟨k, rfl⟩ : ∃ m, k = m + 1 := ⟨k - 1, by omega⟩
        simp only [ladderbacklaw32_PdomNearest.l1]
        rw [if_neg (by omega), wnext i (by omega)]
        exact g k (by omega)
      | succ s ihs =>
        intro c hc
        obtain ⟨K, g⟩ := ihs (c + 1) (by omega)
        obtain ⟨K1, g1⟩ := has_ev (T.getD (c + 1) []) ((i + 1 : Nat) : Int) (by have := tn.short (c + 1); omega)
        obtain ⟨K2, g2⟩ := has_ev (next.getD i []) (c : Int) (by have := hf i; omega)
        simp only at g g1 g2
        have e : decide (((i + 1 : Nat) : Int) ∈ T.getD (c + 1) []) = decide ((c : Int) ∈ next.getD i []) := by
          apply decide_eq_decide.mpr
          rw [tn.at_ c (by omega)]
          constructor
          · rintro ⟨j, a, b, d⟩
            obtain rfl : j = i := by omega
            exact d
          · intro d
            exact ⟨i, hil, by omega, d⟩
        refine ⟨max K (max K1 K2) + 1, fun k hk => ?_⟩
        obtain ⟨k, rfl⟩ : ∃ m, k = m + 1 := ⟨k - 1, by omega⟩
        simp only [ladderbacklaw32_PdomNearest.l1]
        rw [wnext c (by omega), wnext i (by omega), if_pos (by omega), if_pos (by omega), if_pos (by omega), rdL1_eq, g1 k (by omega)]
        simp only [Option.bind_some]
        rw [if_pos (by omega), if_pos (by omega), rdL1_eq, g2 k (by omega)]
        simp only [Option.bind_some]
        rw [e, if_neg (by simp)]
        exact g k (by omega)
    obtain ⟨K, g⟩ := inner next.length 0 (by omega)
    obtain ⟨K1, g1⟩ := has_ev (T.getD 0 []) ((i + 1 : Nat) : Int) (by have := tn.short 0; omega)
    obtain ⟨K2, g2⟩ := has_ev (rowE next i) (next.length : Int) (by have := rowE_len next i (hf i); omega)
    simp only at g g1 g2
    have e : decide (((i + 1 : Nat) : Int) ∈ T.getD 0 []) = decide ((next.length : Int) ∈ rowE next i) := by
      apply decide_eq_decide.mpr
      rw [tn.end_, rowE_mem]
      constructor
      · rintro ⟨j, a, b, d⟩
        obtain rfl : j = i := by omega
        exact Or.inr ⟨rfl, d⟩
      · rintro (⟨_, _, h⟩ | ⟨_, d⟩)
        · omega
        · exact ⟨i, hil, by omega, d⟩
    have e3 : rdOf false E (i : Int) = decide (rd W (i : Int) ≥ 0) := by
      rw [rd_nat, ← hEW i hil]
      simp [rdOf]
    refine ⟨max K (max K1 K2) + 2, fun k hk => ?_⟩
    obtain ⟨k, rfl⟩ : ∃ m, k = m + 2 := ⟨k - 2, by omega⟩
    have e0 : rd_L1 T 0 = T.getD 0 [] := rfl
    simp only [ladderbacklaw32_PdomNearest.l0]
    rw [if_pos (by omega), if_pos (by omega), if_pos (by omega), if_pos (by omega), e3, if_neg (by simp), if_pos (by omega), wnext i (by omega), e0, g1 (k + 1) (by omega)]
    simp only [Option.bind_some]
    rw [if_pos (by omega), rdL1_eq, endG_at _ _ hil, g2 (k + 1) (by omega)]
    simp only [Option.bind_some, ladderbacklaw32_PdomNearest.j2]
    rw [e, if_neg (by simp)]
    exact g k (by omega)
theorem PdomNearest : ladderbacklaw32_PdomNearest.Pure := by
  intro next hw
  apply Ev.rounds
  obtain ⟨K2, h2⟩ := awake_ev
  obtain ⟨b, ⟨K1, h1⟩, hb⟩ := few_ev next 20 (by omega)
  simp only at h1 h2
  cases b with
  | false =>
    refine ⟨max K1 K2, fun k hk => ?_⟩
    simp only [ladderbacklaw32_PdomNearest.f]
    have h1' := h1 k (by omega)
    rw [show ((20 : Nat) : Int) = 20 from rfl] at h1'
    rw [h1']
    simp only [Option.bind_some, Bool.false_eq_true, if_false]
    rw [h2 k (by omega)]
    rfl
  | true =>
    obtain ⟨hn, hf⟩ := hb rfl
    obtain ⟨T, hT, tn⟩ := turned_ev next hn hf
    have hTl := tn.len
    have sm : Small T := ⟨by omega, tn.short⟩
    obtain ⟨D, hD, nr⟩ := near_some T sm (by omega)
    have hDl : D.length = next.length + 1 := nr.len.trans tn.len
    have e1 := nearest_ev next T hn tn hT hD nr
    have e2 := rnearest_ev next T hn hf tn sm nr
    generalize hW : (D.drop 1).map (wv next.length) = W at e1 e2
    have hWl : W.length = next.length := by rw [← hW, List.length_map, List.length_drop]; omega
    obtain ⟨E, hE, hEl, hEW⟩ := ends_ev next hn hWl e1
    obtain ⟨K3, h3⟩ := e1
    obtain ⟨K4, h4⟩ := e2
    obtain ⟨K5, h5⟩ := hE
    obtain ⟨K6, h6⟩ := hT
    obtain ⟨K7, h7⟩ := ended_ev next hn hf
    obtain ⟨K8, h8⟩ := ints_ev W W (by omega)
    obtain ⟨K9, h9⟩ := loop_ev next T hn hf tn hWl hEl hEW next.length 0 (by omega)
    simp only [decide_true] at h3 h4 h5 h6 h7 h8 h9
    refine ⟨max (max (max K1 K2) (max K3 K4)) (max (max K5 K6) (max K7 (max K8 K9))) + 1, fun k hk => ?_⟩
    obtain ⟨k, rfl⟩ : ∃ m, k = m + 1 := ⟨k - 1, by omega⟩
    simp only [ladderbacklaw32_PdomNearest.f]
    have h1' := h1 (k + 1) (by omega)
    rw [show ((20 : Nat) : Int) = 20 from rfl] at h1'
    rw [h1']
    simp only [Option.bind_some, if_true]
    rw [h3 (k + 1) (by omega)]
    simp only [Option.bind_some]
    rw [h4 (k + 1) (by omega)]
    simp only [Option.bind_some]
    rw [h5 (k + 1) (by omega)]
    simp only [Option.bind_some]
    rw [h6 (k + 1) (by omega)]
    simp only [Option.bind_some]
    rw [h7 (k + 1) (by omega)]
    simp only [Option.bind_some]
    rw [h8 (k + 1) (by omega)]
    simp only [Option.bind_some, if_true]
    have e4 : ((T.length : Int) != wrap64 ((next.length : Int) + 1)) = false := by
      rw [wnext next.length (by omega), bne_eq_false_iff_eq]
      omega
    rw [if_pos (by omega), e4]
    simp only [ladderbacklaw32_PdomNearest.j0, Bool.false_eq_true, if_false]
    exact h9 k (by omega)
end Go.Proofs.Ytalhmelcbodjeaa.Pure
