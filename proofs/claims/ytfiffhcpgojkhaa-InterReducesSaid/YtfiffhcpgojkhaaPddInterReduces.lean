/- ref31.Dominates: what is on every way; plain. No condition but that the graph is small. -/
import Derived.Test.YtfiffhcpgojkhaaPdrInterReduces
import Derived.Test.YtfiffhcpgojkhaaDomQ
namespace Go.Proofs.Ytfiffhcpgojkhaa.PddInterReduces
open Go.Proofs.Ytfiffhcpgojkhaa Go.Proofs.Ytfiffhcpgojkhaa.QInterReduces Go.Proofs.Ytfiffhcpgojkhaa.PdB Go.Proofs.Ytfiffhcpgojkhaa.PdrInterReduces Go.Proofs.Ytfiffhcpgojkhaa.DomA Go.Proofs.Ytfiffhcpgojkhaa.DomF Go.Proofs.Ytfiffhcpgojkhaa.DomT Go.Proofs.Ytfiffhcpgojkhaa.DomP Go.RowKit Go.Proofs.YtfiffhcpgojkhaaW.PrintWords Go.Proofs.YtfiffhcpgojkhaaW.PrintLast Go.Proofs.YtfiffhcpgojkhaaW.PrintMore
set_option linter.unusedSimpArgs false
set_option linter.unusedVariables false
theorem rw_rch (next : List (List Int)) (v : Nat) : Rw next 0 (-1) v ↔ Rch next v := by
  constructor
  · intro h
    induction h with
    | @root v h1 h2 _ =>
      have : v = 0 := by omega
      subst this
      exact .root h2
    | step _ he _ ih => exact .step ih he
  · intro h
    induction h with
    | root h => exact .root rfl h (by omega)
    | step _ he ih => exact .step ih he (by omega)
theorem rw_av (next : List (List Int)) (hn : 0 < next.length) (x v : Nat) : Rw next 0 (x : Int) v ↔ Av (pre next) x v := by
  constructor
  · intro h
    have key : Rch next v ∧ Av (pre next) x v := by
      induction h with
      | @root v h1 h2 h3 =>
        have : v = 0 := by omega
        subst this
        exact ⟨.root h2, .root (by omega)⟩
      | step _ he hw ih => exact ⟨.step ih.1 he, .step ih.2 ⟨ih.1, he⟩ (by omega)⟩
    exact key.2
  · intro h
    induction h with
    | root h => exact .root rfl hn (by omega)
    | step _ hp hne ih => exact .step ih hp.2 (by omega)
theorem small_of {next : List (List Int)} {most : Nat} (hm : most ≤ 1000) (h : next.length ≤ most ∧ ∀ i, (next.getD i []).length ≤ 40) : Small next := ⟨by omega, fun i => by have := h.2 i; omega⟩
theorem reach0_ev (next : List (List Int)) (sm : Small next) : ∃ R : List Bool, Ev (fun k => ladderbackref31_Reach.f k next 0 (-1)) R ∧ R.length = next.length ∧ ∀ v, R.getD v false = true ↔ Rch next v := by
  obtain ⟨R, h1, h2, h3⟩ := reach_ev next (by have := sm.1; omega) (fun i => by have := sm.2 i; omega) 0 (-1)
  exact ⟨R, h1, h2, fun v => (h3 v).trans (rw_rch next v)⟩
/-- Whether a dominates b, as the document says. -/
theorem dominates_ev (next : List (List Int)) (sm : Small next) (a b : Int) : ∃ d : Bool, Ev (fun k => ladderbackref31_Dominates.f k next a b) d ∧ (d = true ↔ ∃ x v : Nat, a = (x : Int) ∧ b = (v : Int) ∧ x < next.length ∧ Dm next x v) := by
  obtain ⟨R, ⟨K1, g1⟩, hl, hR⟩ := reach0_ev next sm
  simp only at g1
  by_cases c1 : b < 0
  · refine ⟨false, ⟨K1, fun k hk => ?_⟩, by simp; intros; omega⟩
    simp only [ladderbackref31_Dominates.f]
    rw [g1 k hk]
    simp only [Option.bind_some]
    rw [if_pos c1]
  by_cases c2 : b ≥ (next.length : Int)
  · refine ⟨false, ⟨K1, fun k hk => ?_⟩, ?_⟩
    · simp only [ladderbackref31_Dominates.f]
      rw [g1 k hk]
      simp only [Option.bind_some]
      rw [if_neg c1, if_pos c2]
    · constructor
      · intro h; cases h
      · rintro ⟨x, v, _, rfl, _, hd⟩
        have := Rch.lt hd.1
        omega
  by_cases c3 : a < 0
  · refine ⟨false, ⟨K1, fun k hk => ?_⟩, ?_⟩
    · simp only [ladderbackref31_Dominates.f]
      rw [g1 k hk]
      simp only [Option.bind_some]
      rw [if_neg c1, if_neg c2, if_pos c3]
    · constructor
      · intro h; cases h
      · rintro ⟨x, v, rfl, _⟩; omega
  by_cases c4 : a ≥ (next.length : Int)
  · refine ⟨false, ⟨K1, fun k hk => ?_⟩, ?_⟩
    · simp only [ladderbackref31_Dominates.f]
      rw [g1 k hk]
      simp only [Option.bind_some]
      rw [if_neg c1, if_neg c2, if_neg c3, if_pos c4]
    · constructor
      · intro h; cases h
      · rintro ⟨x, v, rfl, _, hx, _⟩; omega
  obtain ⟨R2, ⟨K2, g2⟩, hl2, hR2⟩ := reach_ev next (by have := sm.1; omega) (fun i => by have := sm.2 i; omega) 0 a
  simp only at g2
  have hv : ((b.toNat : Nat) : Int) = b := by omega
  have ha : ((a.toNat : Nat) : Int) = a := by omega
  have e1 : rdOf false R b = R.getD b.toNat false := rfl
  have e2 : rdOf false R2 b = R2.getD b.toNat false := rfl
  cases hRb : R.getD b.toNat false with
  | false =>
    refine ⟨false, ⟨K1, fun k hk => ?_⟩, ?_⟩
    · simp only [ladderbackref31_Dominates.f]
      rw [g1 k hk]
      simp only [Option.bind_some]
      rw [if_neg c1, if_neg c2, if_neg c3, if_neg c4, if_pos (by omega), if_pos (by omega), e1, hRb, if_neg (by decide)]
    · constructor
      · intro h; cases h
      · rintro ⟨x, v, _, rfl, _, hd⟩
        rw [Int.toNat_natCast] at hRb
        rw [(hR v).mpr hd.1] at hRb
        cases hRb
  | true =>
    refine ⟨!(R2.getD b.toNat false), ⟨max K1 K2, fun k hk => ?_⟩, ?_⟩
    · simp only [ladderbackref31_Dominates.f]
      rw [g1 k (by omega)]
      simp only [Option.bind_some]
      rw [if_neg c1, if_neg c2, if_neg c3, if_neg c4, if_pos (by omega), if_pos (by omega), e1, hRb, if_pos rfl, g2 k (by omega)]
      simp only [Option.bind_some]
      rw [if_pos (by omega), e2]
    · have hrch := (hR _).mp hRb
      have hn : 0 < next.length := by omega
      have h4 : R2.getD b.toNat false = true ↔ Av (pre next) a.toNat b.toNat := by
        rw [hR2, ← rw_av next hn, ha]
      constructor
      · intro h
        refine ⟨a.toNat, b.toNat, ha.symm, hv.symm, by omega, hrch, fun hav => ?_⟩
        rw [h4.mpr hav] at h
        cases h
      · rintro ⟨x, v, rfl, rfl, _, hd⟩
        rw [Int.toNat_natCast] at h4
        cases h5 : R2.getD ((v : Int)).toNat false with
        | false => rfl
        | true =>
          rw [Int.toNat_natCast] at h5
          have := h4.mp (by simpa using h5)
          exact absurd (by simpa using this) hd.2
theorem dm_facts (next : List (List Int)) (sm : Small next) (hn : 0 < next.length) : (∀ x, Rch next x → Dm next x x) ∧ (∀ x y z, Dm next x y → Dm next y z → Dm next x z) ∧ (∀ x y z, Dm next x z → Dm next y z → Dm next x y ∨ Dm next y x) ∧ (∀ x y, Dm next x y → Dm next y x → x = y) ∧ ∀ x y, Dm next x y → Rch next x := by
  obtain ⟨T, o, e⟩ := order_some next sm hn
  have hTl : (0 :: T).length ≤ next.length := nodup_len _ _ o.nd fun v hv => Rch.lt ((o.mem v).mp hv)
  obtain ⟨T1, P1, e1, tb⟩ := outerP_spec o sm (0 :: T) [] (List.replicate next.length (-1)) (List.replicate next.length []) rfl (by simp) (by simp) (by simp) (fun j hj p => by simp [List.getD_eq_getElem?_getD, hj]) (fun j => by
    by_cases hj : j < next.length <;> simp [List.getD_eq_getElem?_getD, hj])
  obtain ⟨D, _, f⟩ := rounds_all o hn tb (K := 2 * T.length + 3) (R := T.length * (T.length + 1) + 2) (by omega) (by omega)
  have key := fin_dom o hn f
  have hpr : ∀ x y, Dm next x y → Rch next x := fun x y h => ((key x y h.1).mpr h).prd f.1.inv.ch h.1
  refine ⟨fun x hx => (key x x hx).mp (.refl _), fun x y z h1 h2 => (key x z h2.1).mp (((key x y h1.1).mpr h1).trans ((key y z h2.1).mpr h2)), fun x y z h1 h2 => ?_, fun x y h1 h2 => ?_, hpr⟩
  · rcases ((key x z h1.1).mpr h1).lin ((key y z h2.1).mpr h2) with h | h
    · exact Or.inl ((key x y (hpr y z h2)).mp h)
    · exact Or.inr ((key y x (hpr x z h1)).mp h)
  · rcases ((key x y h1.1).mpr h1).le f.1.inv.ch h1.1 with e | e
    · exact e
    · rcases ((key y x h2.1).mpr h2).le f.1.inv.ch h2.1 with e2 | e2
      · exact e2.symm
      · omega
end Go.Proofs.Ytfiffhcpgojkhaa.PddInterReduces
