/- FlowBlocks: any code's blocks, and which come ahead of which; plain. No condition. -/
import Derived.Test.YtfiffhcpgojkhaaPfbFlowBlocks
import Derived.Test.YtfiffhcpgojkhaaPchFlowBlocks
import Derived.Test.YtfiffhcpgojkhaaPcnFlowBlocks
namespace Go.Proofs.Ytfiffhcpgojkhaa.Pure
open Go.Proofs.Ytfiffhcpgojkhaa Go.Proofs.Ytfiffhcpgojkhaa.QFlowBlocks Go.Proofs.Ytfiffhcpgojkhaa.PdC Go.Proofs.Ytfiffhcpgojkhaa.PflFlowBlocks Go.Proofs.Ytfiffhcpgojkhaa.PfrFlowBlocks Go.Proofs.Ytfiffhcpgojkhaa.PfnFlowBlocks Go.Proofs.Ytfiffhcpgojkhaa.PfbFlowBlocks Go.Proofs.Ytfiffhcpgojkhaa.PchFlowBlocks Go.Proofs.Ytfiffhcpgojkhaa.PcnFlowBlocks Go.RowKit Go.Proofs.YtfiffhcpgojkhaaW.PrintWords Go.Proofs.YtfiffhcpgojkhaaW.PrintLast Go.Proofs.YtfiffhcpgojkhaaW.PrintMore
set_option linter.unusedSimpArgs false
set_option linter.unusedVariables false
theorem rd39 (L : List S39) (i : Nat) : rd_T39 L (i : Int) = L.getD i z39 := by simp [rd_T39]
theorem next_ev (L : List S39) (hL : L.length ≤ 1000) (hf : ∀ i, (L.getD i z39).f2.length ≤ 1000) : Ev (fun k => flow_Next.f k L) (L.map fun x => x.f2) := by
  have key : ∀ (r i : Nat) (Q : List (List Int)), i + r = L.length → Q.length = L.length → (∀ j, j < i → Q.getD j [] = (L.getD j z39).f2) → Ev (fun k => flow_Next.l0 k Q L (L.length : Int) (i : Int)) (L.map fun x => x.f2) := by
    intro r
    induction r with
    | zero =>
      intro i Q hi hQ h
      obtain rfl : i = L.length := by omega
      refine ⟨1, fun k hk => ?_⟩
      obtain ⟨k, rfl⟩ : ∃ m, k = m + 1 := ⟨k - 1, by omega⟩
      simp only [flow_Next.l0]
      rw [if_neg (by omega)]
      congr 1
      refine List.ext_getElem (by simp [hQ]) fun j h1 h2 => ?_
      have := h j (by omega)
      have hj : j < L.length := by omega
      simp only [List.getD_eq_getElem?_getD, h1, hj, List.getElem?_eq_getElem, Option.getD_some] at this
      simp [this]
    | succ r ih =>
      intro i Q hi hQ h
      obtain ⟨K, g⟩ := ih (i + 1) (Q.set i (L.getD i z39).f2) (by omega) (by rw [List.length_set]; exact hQ) (fun j hj => by
        rw [getDl_set _ _ _ _ (by omega)]
        split
        · rename_i e; subst e; rfl
        · exact h j (by omega))
      simp only at g
      have := hf i
      refine ⟨K + 1, fun k hk => ?_⟩
      obtain ⟨k, rfl⟩ : ∃ m, k = m + 1 := ⟨k - 1, by omega⟩
      simp only [flow_Next.l0]
      rw [if_pos (by omega), if_pos (by omega), if_pos (by omega)]
      simp only [Option.bind_some]
      rw [rd39, if_pos (by simp only [List.length_nil]; omega), if_pos (by omega), Int.toNat_natCast, List.nil_append, wnext i (by omega)]
      exact g k (by omega)
  obtain ⟨K, g⟩ := key L.length 0 (List.replicate L.length []) (by omega) (by simp) (fun j hj => by omega)
  simp only at g
  refine ⟨K, fun k hk => ?_⟩
  simp only [flow_Next.f]
  rw [if_pos (by omega), if_pos (by omega), Int.toNat_natCast]
  exact g k hk
theorem cmp_ev (L : List S39) (P : List (List Int)) (hL : L.length ≤ 1000) (hf : ∀ i, (L.getD i z39).f2.length ≤ 1000) (hP : P.length = L.length) (hPr : ∀ i, (P.getD i []).length ≤ 1000) : ∀ r i : Nat, i + r = L.length → Ev (fun k => ladderbacklaw30_FlowBlocks.l0 k L L (L.map fun x => x.f2) P P (i : Int)) true := by
  obtain ⟨Ka, ga⟩ := awake_ev
  simp only at ga
  intro r
  induction r with
  | zero =>
    intro i hi
    refine ⟨Ka + 1, fun k hk => ?_⟩
    obtain ⟨k, rfl⟩ : ∃ m, k = m + 1 := ⟨k - 1, by omega⟩
    simp only [ladderbacklaw30_FlowBlocks.l0]
    rw [if_neg (by omega), ga k (by omega)]
    rfl
  | succ r ih =>
    intro i hi
    have := hf i
    have := hPr i
    obtain ⟨K, g⟩ := ih (i + 1) (by omega)
    obtain ⟨K1, g1⟩ := ints_ev (L.getD i z39).f2 (L.getD i z39).f2 (by omega)
    obtain ⟨K2, g2⟩ := ints_ev (P.getD i []) (P.getD i []) (by omega)
    simp only [decide_true] at g g1 g2
    have e1 : rd_L3 (L.map fun x => x.f2) (i : Int) = (L.getD i z39).f2 := by
      rw [rdL3_eq]
      simp [List.getD_eq_getElem?_getD, show i < L.length by omega]
    refine ⟨max K (max K1 K2) + 1, fun k hk => ?_⟩
    obtain ⟨k, rfl⟩ : ∃ m, k = m + 1 := ⟨k - 1, by omega⟩
    simp only [ladderbacklaw30_FlowBlocks.l0]
    rw [if_pos (by omega), if_pos (by omega), if_pos (by omega), if_pos trivial, if_pos trivial, rd39, g1 k (by omega)]
    simp only [Option.bind_some, if_true]
    rw [if_pos (by rw [List.length_map]; omega), e1, g1 k (by omega)]
    simp only [Option.bind_some, if_true]
    rw [if_pos (by omega), if_pos (by omega), rdL3_eq, g2 k (by omega)]
    simp only [Option.bind_some, if_true]
    rw [wnext i (by omega)]
    exact g k (by omega)
theorem rest_ev (L : List S39) (hL : L.length ≤ 1000) (hf : ∀ i, (L.getD i z39).f2.length ≤ 1000) (l : List S44) (hl : ¬ (l.length : Int) > 150) (h1 : Ev (fun k => flow_Nodes.f k l) L) (h2 : Ev (fun k => ladderbackref30_Nodes.f k l) L) : Ev (fun k => ladderbacklaw30_FlowBlocks.f k l) true := by
  have sh : Sh (L.map fun x => x.f2) := ⟨by rw [List.length_map]; exact hL, fun i => by
    have := hf i
    by_cases hi : i < L.length
    · simpa [List.getD_eq_getElem?_getD, hi] using this
    · simp [List.getD_eq_getElem?_getD, hi]⟩
  have hPl : (prds (L.map fun x => x.f2)).length = L.length := by simp [prds]
  have hPr : ∀ i, ((prds (L.map fun x => x.f2)).getD i []).length ≤ 1000 := fun i => by
    by_cases hi : i < L.length
    · have := prd_len (L.map fun x => x.f2) i (L.map fun x => x.f2).length
      rw [List.length_map] at this
      simp only [prds, List.length_map]
      simp [List.getD_eq_getElem?_getD, hi]
      omega
    · simp [prds, List.getD_eq_getElem?_getD, hi]
  obtain ⟨K1, g1⟩ := h1
  obtain ⟨K2, g2⟩ := h2
  obtain ⟨K3, g3⟩ := next_ev L hL hf
  obtain ⟨K4, g4⟩ := preds_ev sh
  obtain ⟨K5, g5⟩ := rpreds_ev sh
  obtain ⟨K6, g6⟩ := cmp_ev L (prds (L.map fun x => x.f2)) hL hf hPl hPr L.length 0 (by omega)
  simp only at g1 g2 g3 g4 g5 g6
  refine ⟨max (max K1 K2) (max (max K3 K4) (max K5 K6)) + 1, fun k hk => ?_⟩
  obtain ⟨k, rfl⟩ : ∃ m, k = m + 1 := ⟨k - 1, by omega⟩
  simp only [ladderbacklaw30_FlowBlocks.f]
  rw [if_neg hl, g1 (k + 1) (by omega)]
  simp only [Option.bind_some]
  rw [g2 (k + 1) (by omega)]
  simp only [Option.bind_some]
  rw [if_pos trivial, g3 (k + 1) (by omega)]
  simp only [Option.bind_some]
  rw [g4 (k + 1) (by omega)]
  simp only [Option.bind_some]
  rw [g5 (k + 1) (by omega)]
  simp only [Option.bind_some]
  rw [if_pos (by rw [List.length_map]), show (((prds (L.map fun x => x.f2)).length : Int) != ((prds (L.map fun x => x.f2)).length : Int)) = false by simp]
  simp only [ladderbacklaw30_FlowBlocks.j0, Bool.false_eq_true, if_false]
  exact g6 k (by omega)
theorem FlowBlocks : ladderbacklaw30_FlowBlocks.Pure := by
  intro l hw
  apply Ev.rounds
  obtain ⟨Ka, ga⟩ := awake_ev
  simp only at ga
  by_cases c : (l.length : Int) > 150
  · refine ⟨Ka, fun k hk => ?_⟩
    simp only [ladderbacklaw30_FlowBlocks.f]
    rw [if_pos c, ga k hk]
    rfl
  · have lm : Lim l := by
      refine ⟨by omega, fun i hi => ?_⟩
      have h1 := hw.2 (ins l i) (by simp [ins, rd_T44, hi])
      have h2 := h1.2.1
      simp [Lit.wf, IntKind.min, IntKind.max, IntKind.signed, IntKind.bits] at h2
      omega
    obtain ⟨M, hE, hs, hM⟩ := met_or l lm
    obtain ⟨M2, hs2, hE2⟩ := rmet_ev l lm
    obtain rfl := hs.uniq hs2
    rcases hM with rfl | fk
    · exact rest_ev [] (by simp) (by simp [z39]) l c (nodes_nil hE) (rnodes_nil lm hE2)
    · have hl := fk.lm.1
      have hHn : (hd l M).length ≤ l.length := by
        have hnd : (hd l M).Pairwise (· < ·) := sc_rise _
        have key : ∀ (H : List Int) (a : Int), H.Pairwise (· < ·) → (∀ x ∈ H, a ≤ x ∧ x < (l.length : Int)) → a ≤ (l.length : Int) → (H.length : Int) ≤ (l.length : Int) - a := by
          intro H
          induction H with
          | nil => intro a _ _ ha; simp; omega
          | cons x H ih =>
            intro a hp hx ha
            have h1 := hx x List.mem_cons_self
            have h2 := ih (x + 1) (List.pairwise_cons.mp hp).2 (fun y hy => by
              have h3 := (List.pairwise_cons.mp hp).1 y hy
              have h4 := hx y (List.mem_cons_of_mem _ hy)
              omega) (by omega)
            simp only [List.length_cons]
            omega
        have := key (hd l M) 0 hnd (fun x hx => by
          obtain ⟨u, rfl, h1, _⟩ := to_all fk hx
          omega) (by omega)
        omega
      refine rest_ev (nodesL l (hd l M)) (by simp [nodesL]; omega) (fun i => ?_) l c (nodes_ev fk hE) (rnodes_ev fk hE2)
      by_cases hi : i < (hd l M).length
      · have hm := List.getElem_mem hi
        obtain ⟨u, hu, _, _, h3, _⟩ := to_all fk hm
        have hgl := gs_len fk.lm fk.jo h3.lt
        simp only [nodesL, List.getD_eq_getElem?_getD, List.getElem?_map, hi, List.getElem?_eq_getElem, Option.map_some, Option.getD_some, hu]
        simp only [node, List.length_map, Int.toNat_natCast]
        omega
      · simp [nodesL, List.getD_eq_getElem?_getD, hi, z39]
end Go.Proofs.Ytfiffhcpgojkhaa.Pure
