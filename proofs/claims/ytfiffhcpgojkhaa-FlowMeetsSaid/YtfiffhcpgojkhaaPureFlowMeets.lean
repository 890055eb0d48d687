/- FlowMeets: which places of any code are met, and where one goes on from any; plain. No condition. -/
import Derived.Test.YtfiffhcpgojkhaaPfrFlowMeets
import Derived.Test.YtfiffhcpgojkhaaPfnFlowMeets
import Derived.Test.YtfiffhcpgojkhaaPcnFlowMeets
namespace Go.Proofs.Ytfiffhcpgojkhaa.Pure
open Go.Proofs.Ytfiffhcpgojkhaa Go.Proofs.Ytfiffhcpgojkhaa.QFlowMeets Go.Proofs.Ytfiffhcpgojkhaa.PdC Go.Proofs.Ytfiffhcpgojkhaa.PflFlowMeets Go.Proofs.Ytfiffhcpgojkhaa.PfrFlowMeets Go.Proofs.Ytfiffhcpgojkhaa.PfnFlowMeets Go.Proofs.Ytfiffhcpgojkhaa.PcnFlowMeets Go.RowKit Go.Proofs.YtfiffhcpgojkhaaW.PrintWords Go.Proofs.YtfiffhcpgojkhaaW.PrintLast Go.Proofs.YtfiffhcpgojkhaaW.PrintMore
set_option linter.unusedSimpArgs false
set_option linter.unusedVariables false
theorem goes_both (l : List S44) (lm : Lim l) (pc : Int) : ∃ R : List Int, R.length ≤ 152 ∧ Ev (fun k => flow_Goes.f k l pc) R ∧ Ev (fun k => ladderbackref30_Goes.f k l pc) R := by
  have hl := lm.1
  by_cases hp : 0 ≤ pc ∧ pc < (l.length : Int)
  · obtain ⟨i, rfl⟩ : ∃ i : Nat, pc = (i : Int) := ⟨pc.toNat, by omega⟩
    obtain ⟨b, ⟨K1, g1⟩, hb⟩ := jumps_ev l lm
    simp only at g1
    cases b with
    | true =>
      have jo := hb.mp rfl
      refine ⟨gs l i, gs_len lm jo (by omega), ?_, rgoes_ev l lm jo i (by omega)⟩
      obtain ⟨K2, g2⟩ := goes_ev l lm jo i (by omega)
      simp only at g2
      refine ⟨max K1 K2, fun k hk => ?_⟩
      simp only [flow_Goes.f]
      rw [if_neg (by omega), if_neg (by omega), g1 k (by omega)]
      simp only [Option.bind_some, if_true]
      rw [g2 k (by omega)]
      rfl
    | false =>
      obtain ⟨b2, ⟨K2, g2⟩, hb2⟩ := rjumps_ev l lm
      obtain rfl : b2 = false := by
        cases b2 with
        | false => rfl
        | true => have := hb.mpr (hb2.mp rfl); cases this
      simp only at g2
      refine ⟨[], by simp, ⟨K1, fun k hk => ?_⟩, ⟨K2 + 1, fun k hk => ?_⟩⟩
      · simp only [flow_Goes.f]
        rw [if_neg (by omega), if_neg (by omega), g1 k (by omega)]
        rfl
      · obtain ⟨k, rfl⟩ : ∃ m, k = m + 1 := ⟨k - 1, by omega⟩
        simp only [ladderbackref30_Goes.f]
        rw [if_neg (by omega), if_neg (by omega), g2 (k + 1) (by omega)]
        rfl
  · refine ⟨[], by simp, ⟨0, fun k hk => ?_⟩, ⟨1, fun k hk => ?_⟩⟩
    · simp only [flow_Goes.f]
      by_cases h0 : pc < 0
      · rw [if_pos h0]
      · rw [if_neg h0, if_pos (by omega)]
    · obtain ⟨k, rfl⟩ : ∃ m, k = m + 1 := ⟨k - 1, by omega⟩
      simp only [ladderbackref30_Goes.f]
      by_cases h0 : pc < 0
      · rw [if_pos h0]; rfl
      · rw [if_neg h0, if_pos (by omega)]; rfl
theorem same_ev (M : List Bool) (hM : M.length ≤ 1000) : ∀ r i : Nat, i + r = M.length → Ev (fun k => ladderbacklaw30_FlowMeets.l0 k M M (i : Int)) true := by
  obtain ⟨Ka, ga⟩ := awake_ev
  simp only at ga
  intro r
  induction r with
  | zero =>
    intro i hi
    refine ⟨Ka + 1, fun k hk => ?_⟩
    obtain ⟨k, rfl⟩ : ∃ m, k = m + 1 := ⟨k - 1, by omega⟩
    simp only [ladderbacklaw30_FlowMeets.l0]
    rw [if_neg (by omega), ga k (by omega)]
    rfl
  | succ r ih =>
    intro i hi
    obtain ⟨K, g⟩ := ih (i + 1) (by omega)
    simp only at g
    refine ⟨K + 1, fun k hk => ?_⟩
    obtain ⟨k, rfl⟩ : ∃ m, k = m + 1 := ⟨k - 1, by omega⟩
    simp only [ladderbacklaw30_FlowMeets.l0]
    rw [if_pos (by omega), if_pos (by omega), if_pos (by omega), if_neg (by simp), wnext i (by omega)]
    exact g k (by omega)
theorem FlowMeets : ladderbacklaw30_FlowMeets.Pure := by
  intro l hw pc hp
  apply Ev.rounds
  obtain ⟨Ka, ga⟩ := awake_ev
  simp only at ga
  by_cases c : (l.length : Int) > 150
  · refine ⟨Ka, fun k hk => ?_⟩
    simp only [ladderbacklaw30_FlowMeets.f]
    rw [if_pos c, ga k hk]
    rfl
  · have lm : Lim l := by
      refine ⟨by omega, fun i hi => ?_⟩
      have h1 := hw.2 (ins l i) (by simp [ins, rd_T44, hi])
      have h2 := h1.2.1
      simp [Lit.wf, IntKind.min, IntKind.max, IntKind.signed, IntKind.bits] at h2
      omega
    obtain ⟨M, hs, ⟨K1, g1⟩⟩ := met_ev l lm
    obtain ⟨M2, hs2, ⟨K2, g2⟩⟩ := rmet_ev l lm
    obtain rfl := hs.uniq hs2
    obtain ⟨R, hR, ⟨K3, g3⟩, ⟨K4, g4⟩⟩ := goes_both l lm pc
    obtain ⟨K5, g5⟩ := ints_ev R R (by omega)
    have hMl : M.length ≤ 1000 := by
      rcases hs with ⟨rfl, _⟩ | ⟨h, _⟩
      · simp
      · omega
    obtain ⟨K6, g6⟩ := same_ev M hMl M.length 0 (by omega)
    simp only [decide_true] at g1 g2 g3 g4 g5 g6
    refine ⟨max (max K1 K2) (max (max K3 K4) (max K5 K6)) + 1, fun k hk => ?_⟩
    obtain ⟨k, rfl⟩ : ∃ m, k = m + 1 := ⟨k - 1, by omega⟩
    simp only [ladderbacklaw30_FlowMeets.f]
    rw [if_neg c, g1 (k + 1) (by omega)]
    simp only [Option.bind_some]
    rw [g2 (k + 1) (by omega)]
    simp only [Option.bind_some]
    rw [if_pos trivial, g3 (k + 1) (by omega)]
    simp only [Option.bind_some]
    rw [g4 (k + 1) (by omega)]
    simp only [Option.bind_some]
    rw [g5 (k + 1) (by omega)]
    simp only [Option.bind_some, Bool.not_true, ladderbacklaw30_FlowMeets.j0, Bool.false_eq_true, if_false]
    exact g6 k (by omega)
end Go.Proofs.Ytfiffhcpgojkhaa.Pure
