/- LoopNests: a head dominates its loop; two loops have no place in common, or one has all of the other's; plain. No condition. -/
import Derived.Test.YtfiffhcpgojkhaaDoorPlbLoopNests
namespace Go.Proofs.YtfiffhcpgojkhaaDoor.Pure
open Go.Proofs.YtfiffhcpgojkhaaDoor Go.Proofs.YtfiffhcpgojkhaaDoor.QLoopNests Go.Proofs.YtfiffhcpgojkhaaDoor.PlbLoopNests Go.Proofs.YtfiffhcpgojkhaaDoor.PddLoopNests Go.Proofs.YtfiffhcpgojkhaaDoor.PdfLoopNests Go.Proofs.YtfiffhcpgojkhaaDoor.PhaLoopNests Go.Proofs.YtfiffhcpgojkhaaDoor.DomA Go.Proofs.YtfiffhcpgojkhaaDoor.DomF Go.Proofs.YtfiffhcpgojkhaaDoor.DomP Go.Proofs.YtfiffhcpgojkhaaDoor.DomT Go.Proofs.YtfiffhcpgojkhaaDoor.LoopT Go.Proofs.YtfiffhcpgojkhaaDoor.IntT Go.RowKit Go.Proofs.YtfiffhcpgojkhaaDoorW.PrintWords Go.Proofs.YtfiffhcpgojkhaaDoorW.PrintLast Go.Proofs.YtfiffhcpgojkhaaDoorW.PrintMore
set_option linter.unusedSimpArgs false
set_option linter.unusedVariables false
set_option linter.unusedSectionVars false
theorem graph (next : List (List Int)) (hn : 0 < next.length) : G (Rch next) (pre next) where
  r0 := .root hn
  preL := fun p j h => h.1
  preR := fun p j h => .step h.1 h.2
  rch := fun P h0 hs x hx => by
    have key : Rch next x ∧ P x := by
      induction hx with
      | root _ => exact ⟨.root hn, h0⟩
      | @step u v hu hE ih => exact ⟨.step ih.1 hE, hs u v ih.2 ⟨ih.1, hE⟩⟩
    exact key.2
section
variable {next : List (List Int)} (sm : Small next) (h16 : next.length ≤ 16) (out : List S35) (hol : out.length ≤ 24) (hod : (out.map fun y => y.f0) = heads next) (hy : ∀ y ∈ out, ∃ h : Nat, y.f0 = (h : Int) ∧ Hd next h ∧ Bd next h y.f1)
include sm h16 hol hod hy
theorem elem_at (i : Nat) (hi : i < out.length) : ∃ h : Nat, (rd_T35 out (i : Int)).f0 = (h : Int) ∧ Hd next h ∧ Bd next h (rd_T35 out (i : Int)).f1 := by
  have e : rd_T35 out (i : Int) = out[i] := by simp [rd_T35, hi]
  rw [e]
  exact hy _ (List.getElem_mem hi)
theorem heads_ne (i j : Nat) (hij : j < i) (hi : i < out.length) : (rd_T35 out (i : Int)).f0 ≠ (rd_T35 out (j : Int)).f0 := by
  classical
  have hr : (out.map fun y => y.f0).Pairwise (· < ·) := by rw [hod]; exact PdC.range_rise _ _
  have h1 := List.pairwise_iff_getElem.mp hr j i (by rw [List.length_map]; omega) (by rw [List.length_map]; exact hi) hij
  have ei : rd_T35 out (i : Int) = out[i] := by simp [rd_T35, hi]
  have ej : rd_T35 out (j : Int) = out[j] := by simp [rd_T35, show j < out.length by omega]
  rw [ei, ej]
  simp only [List.getElem_map] at h1
  omega
/-- The count of the places in common. -/
theorem l3_ev (i j : Nat) (hi : i < out.length) (hj : j < i) : ∀ (r m c : Nat), m + r = (rd_T35 out (i : Int)).f1.length → c ≤ m →
    (c + (((rd_T35 out (i : Int)).f1.drop m).filter fun x => decide (x ∈ (rd_T35 out (j : Int)).f1)).length = 0 ∨ c + (((rd_T35 out (i : Int)).f1.drop m).filter fun x => decide (x ∈ (rd_T35 out (j : Int)).f1)).length = (rd_T35 out (i : Int)).f1.length ∨ c + (((rd_T35 out (i : Int)).f1.drop m).filter fun x => decide (x ∈ (rd_T35 out (j : Int)).f1)).length = (rd_T35 out (j : Int)).f1.length) →
    ∀ res, Ev (fun k => ladderbacklaw33_LoopNests.l2 k next out (i : Int) (wrap64 ((j : Int) + 1))) res → Ev (fun k => ladderbacklaw33_LoopNests.l3 k next out (i : Int) (j : Int) (c : Int) (m : Int)) res := by
  obtain ⟨hI, eI, dI, bI⟩ := elem_at sm h16 out hol hod hy i hi
  obtain ⟨hJ, eJ, dJ, bJ⟩ := elem_at sm h16 out hol hod hy j (by omega)
  have lI := bI.1
  have lJ := bJ.1
  have q1 : (0 : Int) ≤ (i : Int) := Int.natCast_nonneg i
  have q2 : (i : Int) < (out.length : Int) := Int.ofNat_lt.mpr hi
  have q3 : (0 : Int) ≤ (j : Int) := Int.natCast_nonneg j
  have q4 : (j : Int) < (out.length : Int) := Int.ofNat_lt.mpr (by omega)
  generalize hAi : (rd_T35 out (i : Int)).f1 = Ai at *
  generalize hAj : (rd_T35 out (j : Int)).f1 = Aj at *
  intro r
  induction r with
  | zero =>
    intro m c hm hc hcnt res hres
    obtain ⟨K, g⟩ := hres
    simp only at g
    have e0 : Ai.drop m = [] := List.drop_eq_nil_of_le (by omega)
    rw [e0] at hcnt
    simp only [List.filter_nil, List.length_nil, Nat.add_zero] at hcnt
    refine ⟨K + 1, fun k hk => ?_⟩
    obtain ⟨k, rfl⟩ : ∃ q, k = q + 1 := ⟨k - 1, by omega⟩
    have gk := g k (by omega)
    simp only [ladderbacklaw33_LoopNests.l3]
    rw [if_pos q1, if_pos q2, hAi, if_neg (by omega)]
    by_cases c0 : (c : Int) = 0
    · rw [if_pos c0]; exact gk
    · rw [if_neg c0]
      by_cases c1 : (c : Int) = (Ai.length : Int)
      · rw [if_pos c1]; exact gk
      · rw [if_neg c1, if_pos q3, if_pos q4, hAj, if_pos (by omega)]; exact gk
  | succ r ih =>
    intro m c hm hc hcnt res hres
    have hlt : m < Ai.length := by omega
    have hd := PdC.drop_rd Ai m hlt
    have bm : m < 4611686018427387904 := by omega
    have bc : c < 4611686018427387904 := by omega
    obtain ⟨K2, g2⟩ := has_ev Aj (rd Ai (m : Int)) (by omega)
    simp only at g2
    rw [hd, List.filter_cons] at hcnt
    by_cases hmem : rd Ai (m : Int) ∈ Aj
    · rw [if_pos (by simpa using hmem), List.length_cons] at hcnt
      obtain ⟨K, g⟩ := ih (m + 1) (c + 1) (by omega) (by omega) (by
        rw [show c + 1 + ((Ai.drop (m + 1)).filter fun x => decide (x ∈ Aj)).length = c + (((Ai.drop (m + 1)).filter fun x => decide (x ∈ Aj)).length + 1) by omega]; exact hcnt) res hres
      simp only at g
      refine ⟨max K K2 + 1, fun k hk => ?_⟩
      obtain ⟨k, rfl⟩ : ∃ q, k = q + 1 := ⟨k - 1, by omega⟩
      have gk := g k (by omega)
      have gk2 := g2 k (by omega)
      simp only [ladderbacklaw33_LoopNests.l3]
      rw [if_pos q1, if_pos q2, hAi, if_pos (Int.ofNat_lt.mpr hlt), if_pos q3, if_pos q4, if_pos (Int.natCast_nonneg m), hAj, gk2]
      simp only [Option.bind_some]
      rw [if_pos (by simpa using hmem), PdC.wnext m bm, PdC.wnext c bc]
      exact gk
    · rw [if_neg (by simpa using hmem)] at hcnt
      obtain ⟨K, g⟩ := ih (m + 1) c (by omega) (by omega) hcnt res hres
      simp only at g
      refine ⟨max K K2 + 1, fun k hk => ?_⟩
      obtain ⟨k, rfl⟩ : ∃ q, k = q + 1 := ⟨k - 1, by omega⟩
      have gk := g k (by omega)
      have gk2 := g2 k (by omega)
      simp only [ladderbacklaw33_LoopNests.l3]
      rw [if_pos q1, if_pos q2, hAi, if_pos (Int.ofNat_lt.mpr hlt), if_pos q3, if_pos q4, if_pos (Int.natCast_nonneg m), hAj, gk2]
      simp only [Option.bind_some]
      rw [if_neg (by simpa using hmem), PdC.wnext m bm]
      exact gk
theorem count_ok (i j : Nat) (hi : i < out.length) (hj : j < i) :
    (((rd_T35 out (i : Int)).f1.filter fun x => decide (x ∈ (rd_T35 out (j : Int)).f1)).length = 0 ∨ ((rd_T35 out (i : Int)).f1.filter fun x => decide (x ∈ (rd_T35 out (j : Int)).f1)).length = (rd_T35 out (i : Int)).f1.length ∨ ((rd_T35 out (i : Int)).f1.filter fun x => decide (x ∈ (rd_T35 out (j : Int)).f1)).length = (rd_T35 out (j : Int)).f1.length) := by
  obtain ⟨hI, eI, dI, bI⟩ := elem_at sm h16 out hol hod hy i hi
  obtain ⟨hJ, eJ, dJ, bJ⟩ := elem_at sm h16 out hol hod hy j (by omega)
  have hne : hI ≠ hJ := fun e => heads_ne sm h16 out hol hod hy i j hj hi (by rw [eI, eJ, e])
  generalize (rd_T35 out (i : Int)).f1 = Ai at *
  generalize (rd_T35 out (j : Int)).f1 = Aj at *
  have hn : 0 < next.length := by have := dI.lt; omega
  by_cases hx : ∃ x, x ∈ Ai ∧ x ∈ Aj
  · obtain ⟨x, hxi, hxj⟩ := hx
    obtain ⟨a, rfl, _, la⟩ := (bI.2.2 x).mp hxi
    obtain ⟨b, eb, _, lb⟩ := (bJ.2.2 _).mp hxj
    obtain rfl : a = b := by omega
    rcases nests (graph next hn) hne dI dJ la lb with h | h
    · refine .inr (.inr ?_)
      have e : (Ai.filter fun x => decide (x ∈ Aj)) = Aj := by
        refine PdC.rise_eq _ _ (List.Pairwise.filter _ bI.2.1) bJ.2.1 fun y => ?_
        rw [List.mem_filter, decide_eq_true_eq]
        refine ⟨fun hq => hq.2, fun hq => ⟨?_, hq⟩⟩
        obtain ⟨v, rfl, hv, lv⟩ := (bJ.2.2 y).mp hq
        exact (bI.2.2 _).mpr ⟨v, rfl, hv, h v lv⟩
      rw [e]
    · refine .inr (.inl ?_)
      have e : (Ai.filter fun x => decide (x ∈ Aj)) = Ai := by
        rw [List.filter_eq_self]
        intro y hq
        rw [decide_eq_true_eq]
        obtain ⟨v, rfl, hv, lv⟩ := (bI.2.2 y).mp hq
        exact (bJ.2.2 _).mpr ⟨v, rfl, hv, h v lv⟩
      rw [e]
  · refine .inl ?_
    have e : (Ai.filter fun x => decide (x ∈ Aj)) = [] := by
      rw [List.filter_eq_nil_iff]
      intro y hq
      rw [decide_eq_true_eq]
      exact fun h2 => hx ⟨y, hq, h2⟩
    rw [e]
    rfl
theorem l2_ev (i : Nat) (hi : i < out.length) : ∀ (r j : Nat), j + r = i → ∀ res, Ev (fun k => ladderbacklaw33_LoopNests.l0 k next out (wrap64 ((i : Int) + 1))) res → Ev (fun k => ladderbacklaw33_LoopNests.l2 k next out (i : Int) (j : Int)) res := by
  intro r
  induction r with
  | zero =>
    rintro j hj res ⟨K, g⟩
    simp only at g
    refine ⟨K + 1, fun k hk => ?_⟩
    obtain ⟨k, rfl⟩ : ∃ q, k = q + 1 := ⟨k - 1, by omega⟩
    have gk := g k (by omega)
    simp only [ladderbacklaw33_LoopNests.l2]
    rw [if_neg (by omega)]
    exact gk
  | succ r ih =>
    intro j hj res hres
    have bj : j < 4611686018427387904 := by omega
    have hji : j < i := by omega
    have h1 := ih (j + 1) (by omega) res hres
    rw [← PdC.wnext j bj] at h1
    obtain ⟨K, g⟩ := l3_ev sm h16 out hol hod hy i j hi hji (rd_T35 out (i : Int)).f1.length 0 0 (Nat.zero_add _) (Nat.le_refl _) (by rw [List.drop_zero, Nat.zero_add]; exact count_ok sm h16 out hol hod hy i j hi hji) res h1
    simp only at g
    refine ⟨K + 1, fun k hk => ?_⟩
    obtain ⟨k, rfl⟩ : ∃ q, k = q + 1 := ⟨k - 1, by clear h1; omega⟩
    have gk := g k (by clear h1; omega)
    simp only [ladderbacklaw33_LoopNests.l2]
    rw [if_pos (Int.ofNat_lt.mpr hji)]
    exact gk
theorem l1_ev (i : Nat) (hi : i < out.length) : ∀ (r m : Nat), m + r = (rd_T35 out (i : Int)).f1.length → ∀ res, Ev (fun k => ladderbacklaw33_LoopNests.l2 k next out (i : Int) 0) res → Ev (fun k => ladderbacklaw33_LoopNests.l1 k next out (i : Int) (m : Int)) res := by
  obtain ⟨hI, eI, dI, bI⟩ := elem_at sm h16 out hol hod hy i hi
  have lI := bI.1
  have hn : 0 < next.length := by have := dI.lt; omega
  have q1 : (0 : Int) ≤ (i : Int) := Int.natCast_nonneg i
  have q2 : (i : Int) < (out.length : Int) := Int.ofNat_lt.mpr hi
  generalize hAi : (rd_T35 out (i : Int)).f1 = Ai at *
  intro r
  induction r with
  | zero =>
    rintro m hm res ⟨K, g⟩
    simp only at g
    refine ⟨K + 1, fun k hk => ?_⟩
    obtain ⟨k, rfl⟩ : ∃ q, k = q + 1 := ⟨k - 1, by omega⟩
    have gk := g k (by omega)
    simp only [ladderbacklaw33_LoopNests.l1]
    rw [if_pos q1, if_pos q2, hAi, if_neg (by omega)]
    exact gk
  | succ r ih =>
    intro m hm res hres
    have hlt : m < Ai.length := by omega
    have bm : m < 4611686018427387904 := by omega
    obtain ⟨K, g⟩ := ih (m + 1) (by omega) res hres
    obtain ⟨a, ea, han, la⟩ := (bI.2.2 _).mp (PdC.rd_mem Ai m hlt)
    obtain ⟨d, ⟨K2, g2⟩, hd⟩ := dominates_ev next sm (hI : Int) (a : Int)
    simp only at g g2
    have hdt : d = true := hd.mpr ⟨hI, a, rfl, rfl, dI.lt, Lb.isR (graph next hn) dI la, la.dom⟩
    refine ⟨max K K2 + 1, fun k hk => ?_⟩
    obtain ⟨k, rfl⟩ : ∃ q, k = q + 1 := ⟨k - 1, by omega⟩
    have gk := g k (by omega)
    have gk2 := g2 k (by omega)
    simp only [ladderbacklaw33_LoopNests.l1]
    rw [if_pos q1, if_pos q2, hAi, if_pos (Int.ofNat_lt.mpr hlt), if_pos (Int.natCast_nonneg m), eI, ea, gk2]
    simp only [Option.bind_some]
    rw [if_pos hdt, PdC.wnext m bm]
    exact gk
theorem l0_ev : ∀ (r i : Nat), i + r = out.length → Ev (fun k => ladderbacklaw33_LoopNests.l0 k next out (i : Int)) true := by
  intro r
  induction r with
  | zero =>
    intro i hi
    obtain ⟨K, g⟩ := awake_ev
    simp only at g
    refine ⟨K + 1, fun k hk => ?_⟩
    obtain ⟨k, rfl⟩ : ∃ q, k = q + 1 := ⟨k - 1, by omega⟩
    simp only [ladderbacklaw33_LoopNests.l0]
    rw [if_neg (by omega), g k (by omega)]
    rfl
  | succ r ih =>
    intro i hi
    have bi : i < 4611686018427387904 := by omega
    have h1 := ih (i + 1) (by omega)
    rw [← PdC.wnext i bi] at h1
    have hil : i < out.length := by clear h1; omega
    have h2 := l2_ev sm h16 out hol hod hy i hil i 0 (by clear h1; omega) true h1
    obtain ⟨K, g⟩ := l1_ev sm h16 out hol hod hy i hil (rd_T35 out (i : Int)).f1.length 0 (Nat.zero_add _) true h2
    simp only at g
    refine ⟨K + 1, fun k hk => ?_⟩
    obtain ⟨k, rfl⟩ : ∃ q, k = q + 1 := ⟨k - 1, by clear h1; omega⟩
    have gk := g k (by clear h1; omega)
    simp only [ladderbacklaw33_LoopNests.l0]
    rw [if_pos (Int.ofNat_lt.mpr hil)]
    exact gk
end
theorem LoopNests : ladderbacklaw33_LoopNests.Pure := by
  intro next _
  obtain ⟨b, ⟨Kf, gf⟩, hb⟩ := few_ev next 16 (by omega)
  simp only at gf
  rw [show ((16 : Nat) : Int) = 16 from rfl] at gf
  cases b with
  | false =>
    obtain ⟨Ka, ga⟩ := awake_ev
    simp only at ga
    refine ⟨max Kf Ka, ?_⟩
    simp only [ladderbacklaw33_LoopNests.f]
    rw [gf _ (by omega)]
    simp only [Option.bind_some]
    rw [if_neg (by decide), ga _ (by omega)]
    rfl
  | true =>
    obtain ⟨h16, h40⟩ := hb rfl
    have sm : Small next := small_of (most := 16) (by omega) ⟨h16, h40⟩
    obtain ⟨out, ⟨K2, g2⟩, hod, hol, hy, _⟩ := find_all next sm (by omega)
    obtain ⟨K3, g3⟩ := l0_ev sm h16 out hol hod hy out.length 0 (Nat.zero_add _)
    simp only at g2 g3
    refine ⟨max Kf (max K2 K3), ?_⟩
    simp only [ladderbacklaw33_LoopNests.f]
    rw [gf _ (by omega)]
    simp only [Option.bind_some]
    rw [if_pos trivial, g2 _ (by omega)]
    simp only [Option.bind_some]
    exact g3 _ (by omega)
end Go.Proofs.YtfiffhcpgojkhaaDoor.Pure
