/- InterParts: the intervals of any graph, and the next graph; plain. No condition. -/
import Derived.Test.YtfiffhcpgojkhaaPixInterParts
import Derived.Test.YtfiffhcpgojkhaaPdfInterParts
import Derived.Test.YtfiffhcpgojkhaaPcnInterParts
namespace Go.Proofs.Ytfiffhcpgojkhaa.Pure
open Go.Proofs.Ytfiffhcpgojkhaa Go.Proofs.Ytfiffhcpgojkhaa.QInterParts Go.Proofs.Ytfiffhcpgojkhaa.PdB Go.Proofs.Ytfiffhcpgojkhaa.PcnInterParts Go.Proofs.Ytfiffhcpgojkhaa.PdeInterParts Go.Proofs.Ytfiffhcpgojkhaa.PdfInterParts Go.Proofs.Ytfiffhcpgojkhaa.PikInterParts Go.Proofs.Ytfiffhcpgojkhaa.PitInterParts Go.Proofs.Ytfiffhcpgojkhaa.PiuInterParts Go.Proofs.Ytfiffhcpgojkhaa.PivInterParts Go.Proofs.Ytfiffhcpgojkhaa.PixInterParts Go.Proofs.Ytfiffhcpgojkhaa.DomF Go.Proofs.Ytfiffhcpgojkhaa.DomT Go.Proofs.Ytfiffhcpgojkhaa.DomP Go.Proofs.Ytfiffhcpgojkhaa.IntT Go.Proofs.Ytfiffhcpgojkhaa.IntU Go.RowKit Go.Proofs.YtfiffhcpgojkhaaW.PrintWords Go.Proofs.YtfiffhcpgojkhaaW.PrintLast Go.Proofs.YtfiffhcpgojkhaaW.PrintMore
set_option linter.unusedSimpArgs false
set_option linter.unusedVariables false
theorem lists_ev (A : List (List Int)) (hA : A.length ≤ 1000) (hr : ∀ i, (A.getD i []).length ≤ 1000) : Ev (fun k => ladderbacklaw34_lists.f k A A) true := by
  have key : ∀ r i : Nat, i + r = A.length → Ev (fun k => ladderbacklaw34_lists.l0 k A A (i : Int)) true := by
    intro r
    induction r with
    | zero =>
      intro i hi
      refine ⟨1, fun k hk => ?_⟩
      obtain ⟨k, rfl⟩ : ∃ m, k = m + 1 := ⟨k - 1, by omega⟩
      simp only [ladderbacklaw34_lists.l0]
      rw [if_neg (by omega)]
    | succ r ih =>
      intro i hi
      have hri := hr i
      obtain ⟨K, g⟩ := ih (i + 1) (by omega)
      obtain ⟨K2, g2⟩ := ints_ev (A.getD i []) (A.getD i []) (by omega)
      simp only at g g2
      refine ⟨max K K2 + 1, fun k hk => ?_⟩
      obtain ⟨k, rfl⟩ : ∃ m, k = m + 1 := ⟨k - 1, by omega⟩
      simp only [ladderbacklaw34_lists.l0]
      rw [if_pos (by omega), if_pos (by omega), if_pos (by omega), rdL1_eq, g2 k (by omega)]
      simp only [Option.bind_some]
      rw [if_pos (by simp), wnext i (by omega)]
      exact g k (by omega)
  obtain ⟨K, g⟩ := key A.length 0 (by omega)
  simp only at g
  refine ⟨K, fun k hk => ?_⟩
  simp only [ladderbacklaw34_lists.f]
  rw [if_pos trivial]
  exact g k hk
theorem InterParts : ladderbacklaw34_InterParts.Pure := by
  intro next hw
  apply Ev.rounds
  obtain ⟨Ka, ga⟩ := awake_ev
  obtain ⟨b, ⟨K1, h1⟩, hb⟩ := few_ev next 16 (by omega)
  simp only at h1 ga
  have e16 : ((16 : Nat) : Int) = 16 := rfl
  rw [e16] at h1
  cases b with
  | false =>
    refine ⟨max K1 Ka, fun k hk => ?_⟩
    simp only [ladderbacklaw34_InterParts.f]
    rw [h1 k (by omega)]
    simp only [Option.bind_some, Bool.false_eq_true, if_false]
    rw [ga k (by omega)]
    rfl
  | true =>
    obtain ⟨hn, hf⟩ := hb rfl
    have sm : Small next := small_of (most := 16) (by omega) ⟨hn, hf⟩
    have all : ∃ A D : List (List Int), Ev (fun k => inter_Parts.f k next) A ∧ Ev (fun k => ladderbackref34_Parts.f k next) A ∧ Ev (fun k => inter_Derive.f k next) D ∧ Ev (fun k => ladderbackref34_Derive.f k next) D ∧ A.length ≤ 1000 ∧ (∀ i, (A.getD i []).length ≤ 1000) ∧ D.length ≤ 1000 ∧ ∀ i, (D.getD i []).length ≤ 1000 := by
      by_cases h0 : 0 < next.length
      · obtain ⟨L, of, D, p, v, rn, hP, hD⟩ := derive_ev sm h0
        have hLl := p.len_le h0
        have hnr := nr_le (next := next)
        have hRP := rparts_ev sm h0 rn (by omega)
        have hRD := rderive_ev sm h0 p v hRP
        have smD := v.small (by omega)
        refine ⟨toL L, D, hP, hRP, hD, hRD, by rw [PixInterParts.toL_len]; omega, fun i => ?_, smD.1, smD.2⟩
        by_cases hi : i < L.length
        · have e : (toL L).getD i [] = toI (L.getD i []) := by simp [toL, toI, hi]
          rw [e, PiwInterParts.toI_len]
          have h2 : (L.getD i []).Nodup := by rw [p.st.iv i hi]; exact ivl_nodup
          have := nodup_len next.length _ h2 fun y hy => Rch.lt (p.st.memR hi hy)
          omega
        · have e : (toL L).getD i [] = [] := by simp [toL, List.getD_eq_getElem?_getD, show L.length ≤ i by omega]
          rw [e]; simp
      · obtain rfl : next = [] := List.eq_nil_of_length_eq_zero (by omega)
        obtain ⟨kn, pd, rc, kw, ⟨K3, h3⟩⟩ := know_ev [] sm
        simp only at h3
        have e1 : kn = [] := List.eq_nil_of_length_eq_zero kw.kl
        have hRP : ∀ k, ladderbackref34_Parts.f k [] = some [] := fun k => rfl
        refine ⟨[], [], ⟨K3 + 3, fun k hk => ?_⟩, ⟨0, fun k _ => hRP k⟩, derive_nil, ⟨0, fun k _ => ?_⟩, by simp, fun i => by simp, by simp, fun i => by simp⟩
        · obtain ⟨k, rfl⟩ : ∃ m, k = m + 3 := ⟨k - 3, by omega⟩
          simp only [inter_Parts.f]
          rw [h3 (k + 3) (by omega), e1]
          simp [inter_known_parts.f, inter_known_parts.l0, inter_known_parts.l1, inter_known_parts.j2]
        · show ladderbackref34_Derive.f k [] = some []
          unfold ladderbackref34_Derive.f
          rw [hRP k]
          rfl
    obtain ⟨A, D, ⟨K2, h2⟩, ⟨K3, h3⟩, ⟨K4, h4⟩, ⟨K5, h5⟩, a1, a2, d1, d2⟩ := all
    obtain ⟨K6, h6⟩ := lists_ev A a1 a2
    obtain ⟨K7, h7⟩ := lists_ev D d1 d2
    simp only at h2 h3 h4 h5 h6 h7
    refine ⟨max (max (max K1 K2) (max K3 K4)) (max (max K5 K6) (max K7 Ka)), fun k hk => ?_⟩
    simp only [ladderbacklaw34_InterParts.f]
    rw [h1 k (by omega)]
    simp only [Option.bind_some, if_true]
    rw [h2 k (by omega)]
    simp only [Option.bind_some]
    rw [h3 k (by omega)]
    simp only [Option.bind_some]
    rw [h6 k (by omega)]
    simp only [Option.bind_some, if_true]
    rw [h4 k (by omega)]
    simp only [Option.bind_some]
    rw [h5 k (by omega)]
    simp only [Option.bind_some]
    rw [h7 k (by omega)]
    simp only [Option.bind_some, if_true]
    rw [ga k (by omega)]
    rfl
end Go.Proofs.Ytfiffhcpgojkhaa.Pure
