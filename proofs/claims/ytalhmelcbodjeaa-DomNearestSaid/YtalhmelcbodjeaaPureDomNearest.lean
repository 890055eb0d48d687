/- DomNearest: any graph's order, and each place's nearest dominator; plain. No condition. -/
import Derived.Test.YtalhmelcbodjeaaPdiDomNearest
import Derived.Test.YtalhmelcbodjeaaPdfDomNearest
namespace Go.Proofs.Ytalhmelcbodjeaa.Pure
open Go.Proofs.Ytalhmelcbodjeaa Go.Proofs.Ytalhmelcbodjeaa.QDomNearest Go.Proofs.Ytalhmelcbodjeaa.PdoDomNearest Go.Proofs.Ytalhmelcbodjeaa.PdfDomNearest Go.Proofs.Ytalhmelcbodjeaa.PddDomNearest Go.Proofs.Ytalhmelcbodjeaa.PdiDomNearest Go.Proofs.Ytalhmelcbodjeaa.DomA Go.Proofs.Ytalhmelcbodjeaa.DomF Go.Proofs.Ytalhmelcbodjeaa.DomP Go.RowKit Go.Proofs.YtalhmelcbodjeaaW.PrintWords Go.Proofs.YtalhmelcbodjeaaW.PrintLast Go.Proofs.YtalhmelcbodjeaaW.PrintMore
set_option linter.unusedSimpArgs false
set_option linter.unusedVariables false
theorem awake_ev : Ev (fun k => ladderbacklaw31_awake.f k) true := by
  have h0 : dom_Idom.f 9 [[1, 2], [3], [3], []] = some [-1, 0, 0, 0] := by decide +kernel
  obtain ⟨K, h⟩ := Ev.of (g := fun k => dom_Idom.f k [[1, 2], [3], [3], []]) (fun k => dom_Idom.mono _ k) h0
  simp only at h
  refine ⟨K, fun k hk => ?_⟩
  simp only [ladderbacklaw31_awake.f]
  rw [h k hk]
  rfl
theorem order_ex (next : List (List Int)) (sm : Small next) : ∃ r, dom_Order.f next = some r ∧ r.length ≤ 1000 := by
  by_cases hn : 0 < next.length
  · obtain ⟨T, o, e⟩ := order_some next sm hn
    have hTl : (0 :: T).length ≤ next.length := nodup_len _ _ o.nd fun v hv => Rch.lt ((o.mem v).mp hv)
    exact ⟨_, e, by rw [List.length_map]; have := sm.1; omega⟩
  · have e : next = [] := List.eq_nil_of_length_eq_zero (by omega)
    subst e
    exact ⟨[], rfl, by simp⟩
theorem DomNearest : ladderbacklaw31_DomNearest.Pure := by
  intro next hw
  apply Ev.rounds
  obtain ⟨K2, h2⟩ := awake_ev
  obtain ⟨b, ⟨K1, h1⟩, hb⟩ := few_ev next 24 (by omega)
  simp only at h1 h2
  cases b with
  | false =>
    refine ⟨max K1 K2, fun k hk => ?_⟩
    simp only [ladderbacklaw31_DomNearest.f]
    have h1' := h1 k (by omega)
    rw [show ((24 : Nat) : Int) = 24 from rfl] at h1'
    rw [h1']
    simp only [Option.bind_some, Bool.false_eq_true, if_false]
    rw [h2 k (by omega)]
    rfl
  | true =>
    have sm := small_of (most := 24) (by omega) (hb rfl)
    obtain ⟨r, e3, hr⟩ := order_ex next sm
    obtain ⟨K4, h4⟩ := rorder_ev next r e3
    obtain ⟨D, ⟨K5, h5⟩, nr⟩ := idom_near next sm
    obtain ⟨K6, h6⟩ := ridom_ev next sm D nr
    obtain ⟨K7, h7⟩ := ints_ev r r (by omega)
    obtain ⟨K8, h8⟩ := ints_ev D D (by have := nr.len; have := sm.1; omega)
    simp only [decide_true] at h4 h5 h6 h7 h8
    refine ⟨max (max (max K1 K2) (max K4 K5)) (max K6 (max K7 K8)), fun k hk => ?_⟩
    simp only [ladderbacklaw31_DomNearest.f]
    have h1' := h1 k (by omega)
    rw [show ((24 : Nat) : Int) = 24 from rfl] at h1'
    rw [h1']
    simp only [Option.bind_some, if_true]
    rw [e3]
    simp only [Option.bind_some]
    rw [h4 k (by omega)]
    simp only [Option.bind_some]
    rw [h7 k (by omega)]
    simp only [Option.bind_some, if_true]
    rw [h5 k (by omega)]
    simp only [Option.bind_some]
    rw [h6 k (by omega)]
    simp only [Option.bind_some]
    rw [h8 k (by omega)]
    simp only [Option.bind_some, if_true]
    rw [h2 k (by omega)]
    rfl
end Go.Proofs.Ytalhmelcbodjeaa.Pure
