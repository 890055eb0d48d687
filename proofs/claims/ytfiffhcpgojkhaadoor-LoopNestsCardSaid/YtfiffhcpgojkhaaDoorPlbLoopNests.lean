/- Which places the document's Reach tells: just those to which one comes; plain. No condition. -/
import Derived.Test.YtfiffhcpgojkhaaDoorQLoopNestsx
import Derived.Test.YtfiffhcpgojkhaaDoorDomQ
import Derived.Test.YtfiffhcpgojkhaaDoorPdC
import Derived.Test.YtfiffhcpgojkhaaDoorSrt
import Derived.Test.YtfiffhcpgojkhaaDoorLoopT
import Derived.Laws.BitsLemmas
import Derived.Lib.TrailingZeros
namespace Go.Proofs.YtfiffhcpgojkhaaDoor.PdrLoopNests
open Go.Proofs.YtfiffhcpgojkhaaDoor Go.Proofs.YtfiffhcpgojkhaaDoor.QLoopNests Go.Proofs.YtfiffhcpgojkhaaDoor.PdB Go.Proofs.YtfiffhcpgojkhaaDoor.DomA Go.Proofs.YtfiffhcpgojkhaaDoor.DomF Go.RowKit Go.Proofs.YtfiffhcpgojkhaaDoorW.PrintWords Go.Proofs.YtfiffhcpgojkhaaDoorW.PrintLast Go.Proofs.YtfiffhcpgojkhaaDoorW.PrintMore
set_option linter.unusedSimpArgs false
set_option linter.unusedVariables false
/-- One comes from f to a place without w. -/
inductive Rw (next : List (List Int)) (f w : Int) : Nat → Prop
  | root {v : Nat} : (v : Int) = f → v < next.length → f ≠ w → Rw next f w v
  | step {u v : Nat} : Rw next f w u → E next u v → (v : Int) ≠ w → Rw next f w v
theorem Rw.lt {next : List (List Int)} {f w : Int} {v : Nat} (h : Rw next f w v) : v < next.length := by
  cases h with
  | root _ h _ => exact h
  | step _ h _ => exact h.2
theorem cnt_lt {M N : List Bool} (hl : M.length = N.length) (h : ∀ v, M.getD v false = true → N.getD v false = true) : cnt N ≤ cnt M ∧ ((∃ v, N.getD v false = true ∧ M.getD v false = false) → cnt N < cnt M) := by
  induction M generalizing N with
  | nil => cases N with
    | nil => exact ⟨Nat.le_refl _, fun ⟨v, h, _⟩ => by simp at h⟩
    | cons => simp at hl
  | cons b M ih =>
    cases N with
    | nil => simp at hl
    | cons c N =>
      obtain ⟨h1, h2⟩ := ih (N := N) (by simpa using hl) (fun v hv => by simpa using h (v + 1) (by simpa using hv))
      have h0 := h 0
      refine ⟨?_, ?_⟩
      · cases b <;> cases c <;> simp [cnt] at h1 h0 ⊢ <;> omega
      · rintro ⟨v, hv, hw⟩
        cases v with
        | zero => cases b <;> cases c <;> simp [cnt] at h1 hv hw ⊢; omega
        | succ v =>
          have h3 := h2 ⟨v, by simpa using hv, by simpa using hw⟩
          cases b <;> cases c <;> simp [cnt] at h3 h0 ⊢ <;> omega
theorem getD_set_t (M : List Bool) (i v : Nat) (hi : i < M.length) : (M.set i true).getD v false = true ↔ M.getD v false = true ∨ v = i := by
  by_cases h : v = i
  · subst h; simp [List.getD_eq_getElem?_getD, hi]
  · simp [List.getD_eq_getElem?_getD, List.getElem?_set, Ne.symm h, h]
theorem getD_lt {M : List Bool} {v : Nat} (h : M.getD v false = true) : v < M.length := by
  by_cases hl : v < M.length
  · exact hl
  · simp [List.getD_eq_getElem?_getD, hl] at h
section
variable (next : List (List Int)) (f w : Int) (hn : next.length < 4611686018427387904) (hbig : ∀ i, (next.getD i []).length < 4611686018427387904)
def Sound (M : List Bool) : Prop := ∀ v, M.getD v false = true → Rw next f w v
include hn hbig in
theorem l2_ev (i : Nat) (hi : i < next.length) : ∀ (r k0 : Nat) (M : List Bool), k0 + r = (next.getD i []).length → M.length = next.length → Sound next f w M →
    ∃ M' : List Bool, M'.length = next.length ∧ Sound next f w M' ∧ (∀ v, M.getD v false = true → M'.getD v false = true) ∧ (M.getD i false = true → ∀ j, k0 ≤ j → j < (next.getD i []).length → ∀ v : Nat, rd (next.getD i []) (j : Int) = (v : Int) → v < next.length → (v : Int) ≠ w → M'.getD v false = true) ∧
      ∀ t R, Ev (fun k => ladderbackref31_Reach.l1 k next w M' t ((i + 1 : Nat) : Int)) R → Ev (fun k => ladderbackref31_Reach.l2 k next w M t (i : Int) (k0 : Int)) R := by
  intro r
  induction r with
  | zero =>
    intro k0 M hk hM hs
    refine ⟨M, hM, hs, fun v h => h, fun _ j h1 h2 => by omega, fun t R hR => ?_⟩
    obtain ⟨K, g⟩ := hR
    simp only at g
    refine ⟨K + 2, fun k hk2 => ?_⟩
    obtain ⟨k, rfl⟩ : ∃ m, k = m + 2 := ⟨k - 2, by omega⟩
    simp only [ladderbackref31_Reach.l2, ladderbackref31_Reach.j4]
    rw [if_pos (by omega), if_pos (by omega), if_neg (by simp only [rd_L1, Int.toNat_natCast]; omega), if_neg (by decide), wnext i (by omega)]
    exact g k (by omega)
  | succ r ih =>
    intro k0 M hk hM hs
    cases hMi : M.getD i false with
    | false =>
      refine ⟨M, hM, hs, fun v h => h, fun h => (by cases h), fun t R hR => ?_⟩
      obtain ⟨K, g⟩ := hR
      simp only at g
      refine ⟨K + 2, fun k hk2 => ?_⟩
      obtain ⟨k, rfl⟩ : ∃ m, k = m + 2 := ⟨k - 2, by omega⟩
      simp only [ladderbackref31_Reach.l2, ladderbackref31_Reach.j4]
      have e1 : rdOf false M (i : Int) = false := by simpa [rdOf] using hMi
      rw [if_pos (by omega), if_pos (by omega), if_pos (by simp only [rd_L1, Int.toNat_natCast]; omega), if_pos (by omega), e1, if_neg (by decide), wnext i (by omega)]
      exact g k (by omega)
    | true =>
      have hb := hbig i
      have e1 : rdOf false M (i : Int) = true := by simpa [rdOf] using hMi
      have hstep : ∀ t k, ladderbackref31_Reach.l2 (k + 2) next w M t (i : Int) (k0 : Int) = (if 0 ≤ rd (next.getD i []) (k0 : Int) ∧ rd (next.getD i []) (k0 : Int) < (next.length : Int) ∧ rd (next.getD i []) (k0 : Int) ≠ w then ladderbackref31_Reach.l2 k next w (M.set (rd (next.getD i []) (k0 : Int)).toNat true) t (i : Int) ((k0 + 1 : Nat) : Int) else ladderbackref31_Reach.l2 k next w M t (i : Int) ((k0 + 1 : Nat) : Int)) := by
        intro t k
        simp only [ladderbackref31_Reach.l2, ladderbackref31_Reach.j4]
        rw [if_pos (by omega), if_pos (by omega), if_pos (by simp only [rd_L1, Int.toNat_natCast]; omega), if_pos (by omega), e1, if_pos rfl, if_pos (by omega), if_pos (by omega), if_pos (by omega), if_pos (by simp only [rd_L1, Int.toNat_natCast]; omega), wnext k0 (by omega)]
        simp only [rd_L1, Int.toNat_natCast]
        by_cases c1 : 0 ≤ rd (next.getD i []) (k0 : Int)
        · by_cases c2 : rd (next.getD i []) (k0 : Int) < (next.length : Int)
          · by_cases c3 : rd (next.getD i []) (k0 : Int) = w
            · simp only [ge_iff_le, c1, c2, c3, if_true, if_false, true_and, ne_eq, not_true_eq_false, and_false, ite_self]
            · have c4 : rd (next.getD i []) (k0 : Int) < (M.length : Int) := by omega
              simp only [ge_iff_le, c1, c2, c3, c4, if_true, if_false, true_and, ne_eq, not_false_eq_true]
          · simp only [ge_iff_le, c1, c2, if_true, if_false, false_and, and_false]
        · simp only [ge_iff_le, c1, if_false, false_and]
      generalize hc : rd (next.getD i []) (k0 : Int) = c at hstep
      by_cases hcc : 0 ≤ c ∧ c < (next.length : Int) ∧ c ≠ w
      · obtain ⟨h0, h1, h2⟩ := hcc
        have hcl : c.toNat < M.length := by omega
        have hE : E next i c.toNat := by
          refine ⟨?_, by omega⟩
          rw [Int.toNat_of_nonneg h0, ← hc]
          have : k0 < (next.getD i []).length := by omega
          have e : rd (next.getD i []) (k0 : Int) = (next.getD i [])[k0] := by
            generalize next.getD i [] = L at this ⊢
            simp [rd, this]
          rw [e]
          exact List.getElem_mem this
        obtain ⟨M', p1, p2, p3, p4, p5⟩ := ih (k0 + 1) (M.set c.toNat true) (by omega) (by simpa using hM) (fun v hv => by
          rcases (getD_set_t M c.toNat v hcl).mp hv with h | h
          · exact hs v h
          · subst h; exact .step (hs i hMi) hE (by rw [Int.toNat_of_nonneg h0]; exact h2))
        refine ⟨M', p1, p2, fun v hv => p3 v ((getD_set_t M c.toNat v hcl).mpr (Or.inl hv)), fun _ j hj1 hj2 v hv hvn hvw => ?_, fun t R hR => ?_⟩
        · by_cases e : j = k0
          · subst e
            rw [hc] at hv
            refine p3 v ((getD_set_t M c.toNat v hcl).mpr (Or.inr ?_))
            omega
          · exact p4 ((getD_set_t M c.toNat i hcl).mpr (Or.inl hMi)) j (by omega) hj2 v hv hvn hvw
        · obtain ⟨K, g⟩ := p5 t R hR
          simp only at g
          refine ⟨K + 2, fun k hk2 => ?_⟩
          obtain ⟨k, rfl⟩ : ∃ m, k = m + 2 := ⟨k - 2, by omega⟩
          show ladderbackref31_Reach.l2 (k + 2) next w M t (i : Int) (k0 : Int) = some R
          rw [hstep t k, if_pos ⟨h0, h1, h2⟩]
          exact g k (by omega)
      · obtain ⟨M', p1, p2, p3, p4, p5⟩ := ih (k0 + 1) M (by omega) hM hs
        refine ⟨M', p1, p2, p3, fun hi2 j hj1 hj2 v hv hvn hvw => ?_, fun t R hR => ?_⟩
        · by_cases e : j = k0
          · subst e
            rw [hc] at hv
            exact absurd ⟨by omega, by omega, by rw [hv]; exact hvw⟩ hcc
          · exact p4 hMi j (by omega) hj2 v hv hvn hvw
        · obtain ⟨K, g⟩ := p5 t R hR
          simp only at g
          refine ⟨K + 2, fun k hk2 => ?_⟩
          obtain ⟨k, rfl⟩ : ∃ m, k = m + 2 := ⟨k - 2, by omega⟩
          show ladderbackref31_Reach.l2 (k + 2) next w M t (i : Int) (k0 : Int) = some R
          rw [hstep t k, if_neg hcc]
          exact g k (by omega)
include hn hbig in
theorem l1_ev : ∀ (r i : Nat) (M : List Bool), i + r = next.length → M.length = next.length → Sound next f w M →
    ∃ M' : List Bool, M'.length = next.length ∧ Sound next f w M' ∧ (∀ v, M.getD v false = true → M'.getD v false = true) ∧ (∀ u, i ≤ u → M.getD u false = true → ∀ v, E next u v → (v : Int) ≠ w → M'.getD v false = true) ∧
      ∀ (t : Nat) R, t < next.length → Ev (fun k => ladderbackref31_Reach.l0 k next w M' ((t + 1 : Nat) : Int)) R → Ev (fun k => ladderbackref31_Reach.l1 k next w M (t : Int) (i : Int)) R := by
  intro r
  induction r with
  | zero =>
    intro i M hi hM hs
    refine ⟨M, hM, hs, fun v h => h, fun u hu hMu => by have := getD_lt hMu; omega, fun t R ht hR => ?_⟩
    obtain ⟨K, g⟩ := hR
    simp only at g
    refine ⟨K + 1, fun k hk2 => ?_⟩
    obtain ⟨k, rfl⟩ : ∃ m, k = m + 1 := ⟨k - 1, by omega⟩
    simp only [ladderbackref31_Reach.l1]
    rw [if_neg (by omega), wnext t (by omega)]
    exact g k (by omega)
  | succ r ih =>
    intro i M hi hM hs
    obtain ⟨M1, p1, p2, p3, p4, p5⟩ := l2_ev next f w hn hbig i (by omega) (next.getD i []).length 0 M (by omega) hM hs
    obtain ⟨M2, q1, q2, q3, q4, q5⟩ := ih (i + 1) M1 (by omega) p1 p2
    refine ⟨M2, q1, q2, fun v h => q3 v (p3 v h), fun u hu hMu v hE hvw => ?_, fun t R ht hR => ?_⟩
    · by_cases e : u = i
      · subst e
        obtain ⟨j, hj, hjv⟩ := List.getElem_of_mem hE.1
        refine q3 v (p4 hMu j (Nat.zero_le _) hj v ?_ hE.2 hvw)
        rw [← hjv]
        generalize next.getD u [] = L at hj ⊢
        simp [rd, hj]
      · exact q4 u (by omega) (p3 u hMu) v hE hvw
    · obtain ⟨K, g⟩ := p5 (t : Int) R (q5 t R ht hR)
      simp only at g
      refine ⟨K + 1, fun k hk2 => ?_⟩
      obtain ⟨k, rfl⟩ : ∃ m, k = m + 1 := ⟨k - 1, by omega⟩
      simp only [ladderbackref31_Reach.l1]
      rw [if_pos (by omega)]
      exact g k (by omega)
def Full (M : List Bool) : Prop := ∀ v, Rw next f w v → M.getD v false = true
include hn hbig in
theorem l0_ev : ∀ (r t : Nat) (M : List Bool), t + r = next.length → M.length = next.length → Sound next f w M → (∀ v : Nat, (v : Int) = f → f ≠ w → M.getD v false = true) → (Full next f w M ∨ cnt M + t + 1 ≤ next.length) →
    ∃ M' : List Bool, M'.length = next.length ∧ Sound next f w M' ∧ Full next f w M' ∧ Ev (fun k => ladderbackref31_Reach.l0 k next w M (t : Int)) M' := by
  intro r
  induction r with
  | zero =>
    intro t M ht hM hs hr hc
    refine ⟨M, hM, hs, hc.resolve_right (by omega), 1, fun k hk => ?_⟩
    obtain ⟨k, rfl⟩ : ∃ m, k = m + 1 := ⟨k - 1, by omega⟩
    simp only [ladderbackref31_Reach.l0]
    rw [if_neg (by omega)]
  | succ r ih =>
    intro t M ht hM hs hr hc
    obtain ⟨M1, p1, p2, p3, p4, p5⟩ := l1_ev next f w hn hbig next.length 0 M (by omega) hM hs
    have hc1 : Full next f w M1 ∨ cnt M1 + (t + 1) + 1 ≤ next.length := by
      rcases hc with hc | hc
      · exact Or.inl fun v hv => p3 v (hc v hv)
      · obtain ⟨g1, g2⟩ := cnt_lt (M := M) (N := M1) (by omega) p3
        by_cases hex : ∃ v, M1.getD v false = true ∧ M.getD v false = false
        · exact Or.inr (by have := g2 hex; omega)
        · left
          intro v hv
          induction hv with
          | root h1 h2 h3 => exact p3 _ (hr _ h1 h3)
          | @step u v _ hE hw ihv =>
            have hMu : M.getD u false = true := by
              cases h : M.getD u false with
              | true => rfl
              | false => exact absurd ⟨u, ihv, h⟩ hex
            exact p4 u (Nat.zero_le _) hMu v hE hw
    obtain ⟨M', q1, q2, q3, q4⟩ := ih (t + 1) M1 (by omega) p1 p2 (fun v h1 h2 => p3 v (hr v h1 h2)) hc1
    refine ⟨M', q1, q2, q3, ?_⟩
    obtain ⟨K, g⟩ := p5 t M' (by omega) q4
    simp only at g
    refine ⟨K + 1, fun k hk2 => ?_⟩
    obtain ⟨k, rfl⟩ : ∃ m, k = m + 1 := ⟨k - 1, by omega⟩
    simp only [ladderbackref31_Reach.l0]
    rw [if_pos (by omega)]
    exact g k (by omega)
end
theorem reach_ev (next : List (List Int)) (hn : next.length ≤ 281474976710656) (hbig : ∀ i, (next.getD i []).length < 4611686018427387904) (f w : Int) :
    ∃ R : List Bool, Ev (fun k => ladderbackref31_Reach.f k next f w) R ∧ R.length = next.length ∧ ∀ v, R.getD v false = true ↔ Rw next f w v := by
  have hrep : ∀ v, (List.replicate next.length false).getD v false = false := fun v => by
    by_cases h : v < next.length <;> simp [List.getD_eq_getElem?_getD, h]
  have hno : (f < 0 ∨ f ≥ (next.length : Int) ∨ f = w) → ∀ v, ¬ Rw next f w v := by
    intro h v hv
    induction hv with
    | root h1 h2 h3 => omega
    | step _ _ _ ih => exact ih
  have hj0 : ∀ k, ladderbackref31_Reach.j0 (k + 1) next f w (List.replicate next.length false) true = some (List.replicate next.length false) := fun k => by simp [ladderbackref31_Reach.j0]
  have hbad : (f < 0 ∨ f ≥ (next.length : Int) ∨ f = w) → ∃ R : List Bool, Ev (fun k => ladderbackref31_Reach.f k next f w) R ∧ R.length = next.length ∧ ∀ v, R.getD v false = true ↔ Rw next f w v := by
    intro h
    refine ⟨List.replicate next.length false, ⟨1, fun k hk => ?_⟩, by simp, fun v => by rw [hrep v]; simp [hno h v]⟩
    obtain ⟨k, rfl⟩ : ∃ m, k = m + 1 := ⟨k - 1, by omega⟩
    simp only [ladderbackref31_Reach.f]
    rw [if_pos (by omega), if_pos (by omega), Int.toNat_natCast]
    simp only [Option.bind_some]
    by_cases c1 : f < 0
    · rw [if_pos c1]; exact hj0 k
    · rw [if_neg c1]
      by_cases c2 : f ≥ (next.length : Int)
      · rw [if_pos c2]; exact hj0 k
      · rw [if_neg c2, show (f == w) = true from beq_iff_eq.mpr (by omega)]; exact hj0 k
  by_cases h : f < 0 ∨ f ≥ (next.length : Int) ∨ f = w
  · exact hbad h
  · have h1 : 0 ≤ f := by omega
    have h2 : f < (next.length : Int) := by omega
    have h3 : f ≠ w := by omega
    have hfl : f.toNat < (List.replicate next.length false).length := by simp; omega
    have hcnt : cnt ((List.replicate next.length false).set f.toNat true) + 0 + 1 ≤ next.length := by
      have := cnt_set (M := List.replicate next.length false) (i := f.toNat) (by
        have : f.toNat < next.length := by omega
        simp [List.getD_eq_getElem?_getD, this])
      rw [cnt_replicate] at this
      omega
    obtain ⟨R, p1, p2, p3, K, g⟩ := l0_ev next f w (by omega) hbig next.length 0 ((List.replicate next.length false).set f.toNat true) (by omega) (by simp) (fun v hv => by
      rcases (getD_set_t _ _ v hfl).mp hv with h | h
      · rw [hrep v] at h; cases h
      · subst h; exact .root (by omega) (by omega) h3) (fun v hv _ => (getD_set_t _ _ v hfl).mpr (Or.inr (by omega))) (Or.inr hcnt)
    simp only at g
    refine ⟨R, ⟨K + 1, fun k hk => ?_⟩, p1, fun v => ⟨p2 v, p3 v⟩⟩
    obtain ⟨k, rfl⟩ : ∃ m, k = m + 1 := ⟨k - 1, by omega⟩
    simp only [ladderbackref31_Reach.f]
    rw [if_pos (by omega), if_pos (by omega), Int.toNat_natCast]
    simp only [Option.bind_some]
    rw [if_neg (by omega), if_neg (by omega), show (f == w) = false from beq_eq_false_iff_ne.mpr h3]
    simp only [ladderbackref31_Reach.j0]
    rw [if_neg (by decide), if_pos h1, if_pos (by simpa using h2)]
    exact g k (by omega)
end Go.Proofs.YtfiffhcpgojkhaaDoor.PdrLoopNests
/- ref31.Dominates: what is on every way; plain. No condition but that the graph is small. -/
namespace Go.Proofs.YtfiffhcpgojkhaaDoor.PddLoopNests
open Go.Proofs.YtfiffhcpgojkhaaDoor Go.Proofs.YtfiffhcpgojkhaaDoor.QLoopNests Go.Proofs.YtfiffhcpgojkhaaDoor.PdB Go.Proofs.YtfiffhcpgojkhaaDoor.PdrLoopNests Go.Proofs.YtfiffhcpgojkhaaDoor.DomA Go.Proofs.YtfiffhcpgojkhaaDoor.DomF Go.Proofs.YtfiffhcpgojkhaaDoor.DomT Go.Proofs.YtfiffhcpgojkhaaDoor.DomP Go.RowKit Go.Proofs.YtfiffhcpgojkhaaDoorW.PrintWords Go.Proofs.YtfiffhcpgojkhaaDoorW.PrintLast Go.Proofs.YtfiffhcpgojkhaaDoorW.PrintMore
set_option linter.unusedSimpArgs false
set_option linter.unusedVariables false
theorem rw_rch (next : List (List Int)) (v : Nat) : Rw next 0 (-1) v ↔ Rch next v := by
  constructor
  · intro h
    induction h with
    | @root v h1 h2 _ =>
      have : v = 0 := by omega
      subst this
      exact .root h2
    | step _ he _ ih => exact .step ih he
  · intro h
    induction h with
    | root h => exact .root rfl h (by omega)
    | step _ he ih => exact .step ih he (by omega)
theorem rw_av (next : List (List Int)) (hn : 0 < next.length) (x v : Nat) : Rw next 0 (x : Int) v ↔ Av (pre next) x v := by
  constructor
  · intro h
    have key : Rch next v ∧ Av (pre next) x v := by
      induction h with
      | @root v h1 h2 h3 =>
        have : v = 0 := by omega
        subst this
        exact ⟨.root h2, .root (by omega)⟩
      | step _ he hw ih => exact ⟨.step ih.1 he, .step ih.2 ⟨ih.1, he⟩ (by omega)⟩
    exact key.2
  · intro h
    induction h with
    | root h => exact .root rfl hn (by omega)
    | step _ hp hne ih => exact .step ih hp.2 (by omega)
theorem small_of {next : List (List Int)} {most : Nat} (hm : most ≤ 1000) (h : next.length ≤ most ∧ ∀ i, (next.getD i []).length ≤ 40) : Small next := ⟨by omega, fun i => by have := h.2 i; omega⟩
theorem reach0_ev (next : List (List Int)) (sm : Small next) : ∃ R : List Bool, Ev (fun k => ladderbackref31_Reach.f k next 0 (-1)) R ∧ R.length = next.length ∧ ∀ v, R.getD v false = true ↔ Rch next v := by
  obtain ⟨R, h1, h2, h3⟩ := reach_ev next (by have := sm.1; omega) (fun i => by have := sm.2 i; omega) 0 (-1)
  exact ⟨R, h1, h2, fun v => (h3 v).trans (rw_rch next v)⟩
/-- Whether a dominates b, as the document says. -/
theorem dominates_ev (next : List (List Int)) (sm : Small next) (a b : Int) : ∃ d : Bool, Ev (fun k => ladderbackref31_Dominates.f k next a b) d ∧ (d = true ↔ ∃ x v : Nat, a = (x : Int) ∧ b = (v : Int) ∧ x < next.length ∧ Dm next x v) := by
  obtain ⟨R, ⟨K1, g1⟩, hl, hR⟩ := reach0_ev next sm
  simp only at g1
  by_cases c1 : b < 0
  · refine ⟨false, ⟨K1, fun k hk => ?_⟩, by simp; intros; omega⟩
    simp only [ladderbackref31_Dominates.f]
    rw [g1 k hk]
    simp only [Option.bind_some]
    rw [if_pos c1]
  by_cases c2 : b ≥ (next.length : Int)
  · refine ⟨false, ⟨K1, fun k hk => ?_⟩, ?_⟩
    · simp only [ladderbackref31_Dominates.f]
      rw [g1 k hk]
      simp only [Option.bind_some]
      rw [if_neg c1, if_pos c2]
    · constructor
      · intro h; cases h
      · rintro ⟨x, v, _, rfl, _, hd⟩
        have := Rch.lt hd.1
        omega
  by_cases c3 : a < 0
  · refine ⟨false, ⟨K1, fun k hk => ?_⟩, ?_⟩
    · simp only [ladderbackref31_Dominates.f]
      rw [g1 k hk]
      simp only [Option.bind_some]
      rw [if_neg c1, if_neg c2, if_pos c3]
    · constructor
      · intro h; cases h
      · rintro ⟨x, v, rfl, _⟩; omega
  by_cases c4 : a ≥ (next.length : Int)
  · refine ⟨false, ⟨K1, fun k hk => ?_⟩, ?_⟩
    · simp only [ladderbackref31_Dominates.f]
      rw [g1 k hk]
      simp only [Option.bind_some]
      rw [if_neg c1, if_neg c2, if_neg c3, if_pos c4]
    · constructor
      · intro h; cases h
      · rintro ⟨x, v, rfl, _, hx, _⟩; omega
  obtain ⟨R2, ⟨K2, g2⟩, hl2, hR2⟩ := reach_ev next (by have := sm.1; omega) (fun i => by have := sm.2 i; omega) 0 a
  simp only at g2
  have hv : ((b.toNat : Nat) : Int) = b := by omega
  have ha : ((a.toNat : Nat) : Int) = a := by omega
  have e1 : rdOf false R b = R.getD b.toNat false := rfl
  have e2 : rdOf false R2 b = R2.getD b.toNat false := rfl
  cases hRb : R.getD b.toNat false with
  | false =>
    refine ⟨false, ⟨K1, fun k hk => ?_⟩, ?_⟩
    · simp only [ladderbackref31_Dominates.f]
      rw [g1 k hk]
      simp only [Option.bind_some]
      rw [if_neg c1, if_neg c2, if_neg c3, if_neg c4, if_pos (by omega), if_pos (by omega), e1, hRb, if_neg (by decide)]
    · constructor
      · intro h; cases h
      · rintro ⟨x, v, _, rfl, _, hd⟩
        rw [Int.toNat_natCast] at hRb
        rw [(hR v).mpr hd.1] at hRb
        cases hRb
  | true =>
    refine ⟨!(R2.getD b.toNat false), ⟨max K1 K2, fun k hk => ?_⟩, ?_⟩
    · simp only [ladderbackref31_Dominates.f]
      rw [g1 k (by omega)]
      simp only [Option.bind_some]
      rw [if_neg c1, if_neg c2, if_neg c3, if_neg c4, if_pos (by omega), if_pos (by omega), e1, hRb, if_pos rfl, g2 k (by omega)]
      simp only [Option.bind_some]
      rw [if_pos (by omega), e2]
    · have hrch := (hR _).mp hRb
      have hn : 0 < next.length := by omega
      have h4 : R2.getD b.toNat false = true ↔ Av (pre next) a.toNat b.toNat := by
        rw [hR2, ← rw_av next hn, ha]
      constructor
      · intro h
        refine ⟨a.toNat, b.toNat, ha.symm, hv.symm, by omega, hrch, fun hav => ?_⟩
        rw [h4.mpr hav] at h
        cases h
      · rintro ⟨x, v, rfl, rfl, _, hd⟩
        rw [Int.toNat_natCast] at h4
        cases h5 : R2.getD ((v : Int)).toNat false with
        | false => rfl
        | true =>
          rw [Int.toNat_natCast] at h5
          have := h4.mp (by simpa using h5)
          exact absurd (by simpa using this) hd.2
theorem dm_facts (next : List (List Int)) (sm : Small next) (hn : 0 < next.length) : (∀ x, Rch next x → Dm next x x) ∧ (∀ x y z, Dm next x y → Dm next y z → Dm next x z) ∧ (∀ x y z, Dm next x z → Dm next y z → Dm next x y ∨ Dm next y x) ∧ (∀ x y, Dm next x y → Dm next y x → x = y) ∧ ∀ x y, Dm next x y → Rch next x := by
  obtain ⟨T, o, e⟩ := order_some next sm hn
  have hTl : (0 :: T).length ≤ next.length := nodup_len _ _ o.nd fun v hv => Rch.lt ((o.mem v).mp hv)
  obtain ⟨T1, P1, e1, tb⟩ := outerP_spec o sm (0 :: T) [] (List.replicate next.length (-1)) (List.replicate next.length []) rfl (by simp) (by simp) (by simp) (fun j hj p => by simp [List.getD_eq_getElem?_getD, hj]) (fun j => by
    by_cases hj : j < next.length <;> simp [List.getD_eq_getElem?_getD, hj])
  obtain ⟨D, _, f⟩ := rounds_all o hn tb (K := 2 * T.length + 3) (R := T.length * (T.length + 1) + 2) (by omega) (by omega)
  have key := fin_dom o hn f
  have hpr : ∀ x y, Dm next x y → Rch next x := fun x y h => ((key x y h.1).mpr h).prd f.1.inv.ch h.1
  refine ⟨fun x hx => (key x x hx).mp (.refl _), fun x y z h1 h2 => (key x z h2.1).mp (((key x y h1.1).mpr h1).trans ((key y z h2.1).mpr h2)), fun x y z h1 h2 => ?_, fun x y h1 h2 => ?_, hpr⟩
  · rcases ((key x z h1.1).mpr h1).lin ((key y z h2.1).mpr h2) with h | h
    · exact Or.inl ((key x y (hpr y z h2)).mp h)
    · exact Or.inr ((key y x (hpr x z h1)).mp h)
  · rcases ((key x y h1.1).mpr h1).le f.1.inv.ch h1.1 with e | e
    · exact e
    · rcases ((key y x h2.1).mpr h2).le f.1.inv.ch h2.1 with e2 | e2
      · exact e2.symm
      · omega
end Go.Proofs.YtfiffhcpgojkhaaDoor.PddLoopNests
/- dom.Dominates: a walk along a list; plain. No condition. -/
namespace Go.Proofs.YtfiffhcpgojkhaaDoor.PdwLoopNests
open Go.Proofs.YtfiffhcpgojkhaaDoor Go.Proofs.YtfiffhcpgojkhaaDoor.QLoopNests Go.Proofs.YtfiffhcpgojkhaaDoor.PdB Go.Proofs.YtfiffhcpgojkhaaDoor.DomA Go.RowKit Go.Proofs.YtfiffhcpgojkhaaDoorW.PrintWords Go.Proofs.YtfiffhcpgojkhaaDoorW.PrintLast Go.Proofs.YtfiffhcpgojkhaaDoorW.PrintMore
set_option linter.unusedSimpArgs false
set_option linter.unusedVariables false
/-- Whether one comes to a from x in so many steps. -/
def walk (l : List Int) (a : Int) : Nat → Int → Bool
  | 0, _ => false
  | r + 1, x => if x = a then true else if x < 0 then false else if x ≥ (l.length : Int) then false else walk l a r (rd l x)
theorem dom_l0 (l : List Int) (a : Int) (hl : l.length ≤ 9223372036854775) : ∀ (r : Nat) (x : Int) (i : Nat), i + r = l.length + 1 → Ev (fun k => dom_Dominates.l0 k l a x ((l.length : Int) + 1) (i : Int)) (walk l a r x) := by
  intro r
  induction r with
  | zero =>
    intro x i hi
    refine ⟨1, fun k hk => ?_⟩
    obtain ⟨k, rfl⟩ : ∃ m, k = m + 1 := ⟨k - 1, by omega⟩
    simp only [dom_Dominates.l0, walk]
    rw [if_neg (by omega)]
  | succ r ih =>
    intro x i hi
    obtain ⟨K, h⟩ := ih (rd l x) (i + 1) (by omega)
    simp only at h
    refine ⟨K + 1, fun k hk => ?_⟩
    obtain ⟨k, rfl⟩ : ∃ m, k = m + 1 := ⟨k - 1, by omega⟩
    simp only [dom_Dominates.l0, walk]
    rw [if_pos (by omega)]
    have hw : wrap64 ((i : Int) + 1) = ((i + 1 : Nat) : Int) := by rw [w64_of (by omega) (by omega)]; omega
    by_cases c1 : x = a
    · rw [if_pos c1, if_pos c1]
    rw [if_neg c1, if_neg c1]
    by_cases c2 : x < 0
    · rw [if_pos c2, if_pos c2]
    rw [if_neg c2, if_neg c2]
    by_cases c3 : x ≥ (l.length : Int)
    · rw [if_pos c3, if_pos c3]
    rw [if_neg c3, if_neg c3, if_pos (by omega), if_pos (by omega), hw]
    exact h k (by omega)
theorem dom_f (l : List Int) (a b : Int) (hl : l.length ≤ 9223372036854775) : Ev (fun k => dom_Dominates.f k l a b) (if b < 0 then false else if b ≥ (l.length : Int) then false else walk l a (l.length + 1) b) := by
  obtain ⟨K, h⟩ := dom_l0 l a hl (l.length + 1) b 0 (by omega)
  simp only at h
  refine ⟨K + 2, fun k hk => ?_⟩
  obtain ⟨k, rfl⟩ : ∃ m, k = m + 1 := ⟨k - 1, by omega⟩
  simp only [dom_Dominates.f]
  by_cases c2 : b < 0
  · rw [if_pos c2, if_pos c2]
    simp [dom_Dominates.j0]
  rw [if_neg c2, if_neg c2]
  simp only [dom_Dominates.j0]
  by_cases c3 : b ≥ (l.length : Int)
  · rw [if_pos (decide_eq_true c3), if_pos c3]
  rw [if_neg (by simpa using c3), if_neg c3, w64_of (by omega) (by omega)]
  exact h k (by omega)
end Go.Proofs.YtfiffhcpgojkhaaDoor.PdwLoopNests
/- ref30.Has: membership; plain. No condition but that the row is short. -/
namespace Go.Proofs.YtfiffhcpgojkhaaDoor.PhaLoopNests
open Go.Proofs.YtfiffhcpgojkhaaDoor Go.Proofs.YtfiffhcpgojkhaaDoor.QLoopNests Go.Proofs.YtfiffhcpgojkhaaDoor.PdC Go.RowKit Go.Proofs.YtfiffhcpgojkhaaDoorW.PrintWords Go.Proofs.YtfiffhcpgojkhaaDoorW.PrintLast Go.Proofs.YtfiffhcpgojkhaaDoorW.PrintMore
set_option linter.unusedSimpArgs false
set_option linter.unusedVariables false
/-- Membership. -/
theorem has_ev (l : List Int) (x : Int) (hl : l.length < 4611686018427387904) : Ev (fun k => ladderbackref30_Has.f k l x) (decide (x ∈ l)) := by
  have key : ∀ r i : Nat, i + r = l.length → Ev (fun k => ladderbackref30_Has.l0 k l x (i : Int)) (decide (x ∈ l.drop i)) := by
    intro r
    induction r with
    | zero =>
      intro i hi
      refine ⟨1, fun k hk => ?_⟩
      obtain ⟨k, rfl⟩ : ∃ m, k = m + 1 := ⟨k - 1, by omega⟩
      simp only [ladderbackref30_Has.l0]
      rw [if_neg (by omega), List.drop_eq_nil_of_le (by omega)]
      simp
    | succ r ih =>
      intro i hi
      obtain ⟨K, g⟩ := ih (i + 1) (by omega)
      simp only at g
      refine ⟨K + 1, fun k hk => ?_⟩
      obtain ⟨k, rfl⟩ : ∃ m, k = m + 1 := ⟨k - 1, by omega⟩
      simp only [ladderbackref30_Has.l0]
      rw [if_pos (by omega), if_pos (by omega), drop_rd l i (by omega)]
      by_cases e : rd l (i : Int) = x
      · rw [if_pos e]; simp [e]
      · rw [if_neg e, wnext i (by omega)]
        have h2 := g k (by omega)
        rw [h2]
        have e2 : ¬ x = rd l (i : Int) := fun h => e h.symm
        simp [e2]
  obtain ⟨K, g⟩ := key l.length 0 (by omega)
  simp only [List.drop_zero] at g
  exact ⟨K, fun k hk => by simp only [ladderbackref30_Has.f]; exact g k hk⟩
end Go.Proofs.YtfiffhcpgojkhaaDoor.PhaLoopNests
/- ref31.Few; plain. No condition. -/
namespace Go.Proofs.YtfiffhcpgojkhaaDoor.PdfLoopNests
open Go.Proofs.YtfiffhcpgojkhaaDoor Go.Proofs.YtfiffhcpgojkhaaDoor.QLoopNests Go.Proofs.YtfiffhcpgojkhaaDoor.PdB Go.Proofs.YtfiffhcpgojkhaaDoor.DomA Go.Proofs.YtfiffhcpgojkhaaDoor.DomF Go.RowKit Go.Proofs.YtfiffhcpgojkhaaDoorW.PrintWords Go.Proofs.YtfiffhcpgojkhaaDoorW.PrintLast Go.Proofs.YtfiffhcpgojkhaaDoorW.PrintMore
set_option linter.unusedSimpArgs false
set_option linter.unusedVariables false
theorem few_ev (next : List (List Int)) (most : Nat) (hm : most ≤ 1000) : ∃ b : Bool, Ev (fun k => ladderbackref31_Few.f k next (most : Int)) b ∧ (b = true → next.length ≤ most ∧ ∀ i, (next.getD i []).length ≤ 40) := by
  by_cases c : next.length > most
  · refine ⟨false, ⟨0, fun k _ => ?_⟩, by simp⟩
    simp only [ladderbackref31_Few.f]
    rw [if_pos (by omega)]
  · have key : ∀ r i : Nat, i + r = next.length → ∃ b : Bool, Ev (fun k => ladderbackref31_Few.l0 k next (i : Int)) b ∧ (b = true → ∀ j, i ≤ j → (next.getD j []).length ≤ 40) := by
      intro r
      induction r with
      | zero =>
        intro i hi
        refine ⟨true, ⟨1, fun k hk => ?_⟩, fun _ j hj => ?_⟩
        · obtain ⟨k, rfl⟩ : ∃ m, k = m + 1 := ⟨k - 1, by omega⟩
          simp only [ladderbackref31_Few.l0]
          rw [if_neg (by omega)]
        · have : ¬ j < next.length := by omega
          simp [List.getD_eq_getElem?_getD, this]
      | succ r ih =>
        intro i hi
        by_cases c2 : ((rd_L1 next (i : Int)).length : Int) > 40
        · refine ⟨false, ⟨1, fun k hk => ?_⟩, by simp⟩
          obtain ⟨k, rfl⟩ : ∃ m, k = m + 1 := ⟨k - 1, by omega⟩
          simp only [ladderbackref31_Few.l0]
          rw [if_pos (by omega), if_pos (by omega), if_pos c2]
        · obtain ⟨b, ⟨K, g⟩, hb⟩ := ih (i + 1) (by omega)
          simp only at g
          refine ⟨b, ⟨K + 1, fun k hk => ?_⟩, fun h j hj => ?_⟩
          · obtain ⟨k, rfl⟩ : ∃ m, k = m + 1 := ⟨k - 1, by omega⟩
            simp only [ladderbackref31_Few.l0]
            rw [if_pos (by omega), if_pos (by omega), if_neg c2, wnext i (by omega)]
            exact g k (by omega)
          · by_cases e : j = i
            · subst e
              simp only [rd_L1, Int.toNat_natCast] at c2
              omega
            · exact hb h j (by omega)
    obtain ⟨b, ⟨K, g⟩, hb⟩ := key next.length 0 (by omega)
    simp only at g
    refine ⟨b, ⟨K, fun k hk => ?_⟩, fun h => ⟨by omega, fun i => hb h i (Nat.zero_le _)⟩⟩
    simp only [ladderbackref31_Few.f]
    rw [if_neg (by omega)]
    exact g k hk
end Go.Proofs.YtfiffhcpgojkhaaDoor.PdfLoopNests
/- Rows of pairs sorted and compacted: the same pairs, rising. No condition. -/
namespace Go.Proofs.YtfiffhcpgojkhaaDoor.PdP
open Go.Proofs.YtfiffhcpgojkhaaDoor Go.Proofs.YtfiffhcpgojkhaaDoor.Srt
set_option linter.unusedSimpArgs false
set_option linter.unusedVariables false
def L2 (x y : Int × Int) : Prop := x.1 < y.1 ∨ x.1 = y.1 ∧ x.2 < y.2
theorem L2.irr {x y : Int × Int} (h : L2 x y) (h2 : L2 y x) : False := by unfold L2 at *; omega
theorem L2.tr {x y z : Int × Int} (h : L2 x y) (h2 : L2 y z) : L2 x z := by unfold L2 at *; omega
theorem L2.or {x y : Int × Int} (h : ¬ L2 y x) : x = y ∨ L2 x y := by
  by_cases e : L2 x y
  · exact .inr e
  · refine .inl (Prod.ext ?_ ?_)
    · unfold L2 at *; omega
    · unfold L2 at *; omega
theorem rise_eq : ∀ (a b : List (Int × Int)), a.Pairwise L2 → b.Pairwise L2 → (∀ x, x ∈ a ↔ x ∈ b) → a = b := by
  intro a
  induction a with
  | nil =>
    intro b _ _ h
    cases b with
    | nil => rfl
    | cons y b => exact absurd ((h y).mpr List.mem_cons_self) (by simp)
  | cons x a ih =>
    intro b ha hb h
    cases b with
    | nil => exact absurd ((h x).mp List.mem_cons_self) (by simp)
    | cons y b =>
      have ha' := List.pairwise_cons.mp ha
      have hb' := List.pairwise_cons.mp hb
      have exy : x = y := by
        rcases List.mem_cons.mp ((h x).mp List.mem_cons_self) with e | e
        · exact e
        · rcases List.mem_cons.mp ((h y).mpr List.mem_cons_self) with e2 | e2
          · exact e2.symm
          · exact ((hb'.1 x e).irr (ha'.1 y e2)).elim
      subst exy
      rw [ih b ha'.2 hb'.2 fun z => ?_]
      constructor
      · intro hz
        rcases List.mem_cons.mp ((h z).mp (List.mem_cons_of_mem _ hz)) with e | e
        · subst e; exact ((ha'.1 z hz).irr (ha'.1 z hz)).elim
        · exact e
      · intro hz
        rcases List.mem_cons.mp ((h z).mpr (List.mem_cons_of_mem _ hz)) with e | e
        · subst e; exact ((hb'.1 z hz).irr (hb'.1 z hz)).elim
        · exact e
def sortP (l : List (Int × Int)) : List (Int × Int) := l.mergeSort fun x y => !(Go.Proofs.ltOf cf2) y x
theorem lt2_L (x y : Int × Int) : Go.Proofs.ltOf cf2 x y = true ↔ L2 x y := by rw [ltOf2]; exact lt2_iff x y
theorem srt (l : List (Int × Int)) : (sortP l).Pairwise fun x y => ¬ L2 y x := by
  have h := List.pairwise_mergeSort (le := fun x y : Int × Int => !(Go.Proofs.ltOf cf2) y x) (fun a b c h1 h2 => by
    simp only [Bool.not_eq_true', ← Bool.not_eq_true, lt2_L] at *
    unfold L2 at *
    omega) (fun a b => by
    have ha := lt2_L a b
    have hb := lt2_L b a
    cases h1 : Go.Proofs.ltOf cf2 a b <;> cases h2 : Go.Proofs.ltOf cf2 b a <;> simp
    exact L2.irr (ha.mp h1) (hb.mp h2)) l
  exact h.imp fun h hl => by
    have := (lt2_L _ _).mpr hl
    simp [this] at h
theorem sort_mem (l : List (Int × Int)) (x : Int × Int) : x ∈ sortP l ↔ x ∈ l := List.mem_mergeSort
theorem keeps_iff (zs : List (Int × Int)) (j : Nat) (hj : j < zs.length) : Lib.keeps zs.toArray j = true ↔ j = 0 ∨ zs.getD (j - 1) (0, 0) ≠ zs.getD j (0, 0) := by
  unfold Lib.keeps
  by_cases h0 : j = 0
  · subst h0; simp
  · simp [h0, List.getD_eq_getElem?_getD, hj, show j - 1 < zs.length by omega]
    grind
theorem compact_mem (zs : List (Int × Int)) (x : Int × Int) : x ∈ Lib.compact zs ↔ x ∈ zs := by
  unfold Lib.compact Lib.compactUpTo
  rw [List.mem_map]
  constructor
  · rintro ⟨j, hj, rfl⟩
    have := (List.mem_filter.mp hj).1
    rw [List.mem_range] at this
    simp [this]
  · intro hx
    obtain ⟨j, hj, e⟩ := List.getElem_of_mem hx
    have key : ∀ n j, j ≤ n → (hj : j < zs.length) → zs[j] = x → ∃ i, i ∈ (List.range zs.length).filter (Lib.keeps zs.toArray) ∧ zs.toArray[i]! = x := by
      intro n
      induction n with
      | zero =>
        intro j h0 hj e
        obtain rfl : j = 0 := by omega
        exact ⟨0, List.mem_filter.mpr ⟨List.mem_range.mpr hj, (keeps_iff zs 0 hj).mpr (Or.inl rfl)⟩, by simp [hj, e]⟩
      | succ n ih =>
        intro j h0 hj e
        by_cases hk : Lib.keeps zs.toArray j = true
        · exact ⟨j, List.mem_filter.mpr ⟨List.mem_range.mpr hj, hk⟩, by simp [hj, e]⟩
        · have h1 := fun h => hk ((keeps_iff zs j hj).mpr h)
          have h2 : j ≠ 0 := fun h => h1 (Or.inl h)
          have h3 : zs.getD (j - 1) (0, 0) = zs.getD j (0, 0) := Classical.byContradiction fun h => h1 (Or.inr h)
          refine ih (j - 1) (by omega) (by omega) ?_
          simp only [List.getD_eq_getElem?_getD, hj, show j - 1 < zs.length by omega, List.getElem?_eq_getElem, Option.getD_some] at h3
          rw [h3, e]
    exact key j j (Nat.le_refl _) hj e
theorem compact_rise (zs : List (Int × Int)) (h : zs.Pairwise fun x y => ¬ L2 y x) : (Lib.compact zs).Pairwise L2 := by
  unfold Lib.compact Lib.compactUpTo
  rw [List.pairwise_map]
  have h1 : ((List.range zs.length).filter (Lib.keeps zs.toArray)).Pairwise (· < ·) := List.Pairwise.filter _ List.pairwise_lt_range
  refine h1.imp_of_mem ?_
  intro i j hi hj hij
  have hi' := List.mem_range.mp (List.mem_filter.mp hi).1
  have hj' := List.mem_range.mp (List.mem_filter.mp hj).1
  have hk := (keeps_iff zs j hj').mp (List.mem_filter.mp hj).2
  have hk2 := hk.resolve_left (by omega)
  have hp := List.pairwise_iff_getElem.mp h
  simp only [List.getD_eq_getElem?_getD, hj', show j - 1 < zs.length by omega, List.getElem?_eq_getElem, Option.getD_some] at hk2
  have h2 := (L2.or (hp (j - 1) j (by omega) hj' (by omega))).resolve_left hk2
  have h3 : zs[i] = zs[j - 1] ∨ L2 zs[i] zs[j - 1] := by
    by_cases e : i = j - 1
    · subst e; exact .inl rfl
    · exact L2.or (hp i (j - 1) hi' (by omega) (by omega))
  have e1 : zs.toArray[i]! = zs[i] := by simp [hi']
  have e2 : zs.toArray[j]! = zs[j] := by simp [hj']
  rw [e1, e2]
  rcases h3 with h3 | h3
  · rw [h3]; exact h2
  · exact h3.tr h2
end Go.Proofs.YtfiffhcpgojkhaaDoor.PdP
/- Sets of bits of at most 24 places, and loop.body: just the loop's places, in order; plain. No condition but that the graph is small. -/
namespace Go.Proofs.YtfiffhcpgojkhaaDoor.PlbLoopNests
open Go.Proofs.YtfiffhcpgojkhaaDoor Go.Proofs.YtfiffhcpgojkhaaDoor.QLoopNests Go.Proofs.YtfiffhcpgojkhaaDoor.PdB Go.Proofs.YtfiffhcpgojkhaaDoor.DomA Go.Proofs.YtfiffhcpgojkhaaDoor.DomF Go.Proofs.YtfiffhcpgojkhaaDoor.DomP Go.Proofs.YtfiffhcpgojkhaaDoor.DomT Go.Proofs.YtfiffhcpgojkhaaDoor.LoopT Go.RowKit Go.Proofs.YtfiffhcpgojkhaaDoorW.PrintWords Go.Proofs.YtfiffhcpgojkhaaDoorW.PrintLast Go.Proofs.YtfiffhcpgojkhaaDoorW.PrintMore
set_option linter.unusedSimpArgs false
set_option linter.unusedVariables false
theorem wrap_u64 (n : Int) (h0 : 0 ≤ n) (h1 : n < 2 ^ 64) : IntKind.u64.wrap n = n := by
  simp [IntKind.wrap, IntKind.bits, IntKind.signed]
  omega
theorem new_val (n : Nat) (h1 : 1 ≤ n) (h : n ≤ 24) : bits_New.f (n : Int) = some ((n : Int), [0]) := by
  have e1 : mn (n : Int) 65536 = (n : Int) := by unfold mn; split <;> omega
  have e2 : mx 0 (n : Int) = (n : Int) := by unfold mx; split <;> omega
  unfold bits_New.f
  rw [e1, e2]
  have e3 : ((n : Int) + 63) / 64 = 1 := by omega
  rw [e3]
  rfl
theorem with_val (n w i : Nat) (hn : n ≤ 24) (hi : i < n) (hw : w < 2 ^ 24) : bits_Set_With.f (n : Int) [(w : Int)] (i : Int) = some ((n : Int), [((w ||| 2 ^ i : Nat) : Int)]) := by
  unfold bits_Set_With.f
  rw [if_neg (by omega), if_neg (by omega)]
  unfold bits_Set_copied.f
  rw [new_val n (by omega) hn]
  have e1 : wrap64 (Int.tdiv (i : Int) 64) = 0 := by
    rw [Int.tdiv_eq_ediv_of_nonneg (by omega), show (i : Int) / 64 = 0 by omega]
    exact w64_of (by decide) (by decide)
  have e2 : Int.tmod (i : Int) 64 = (i : Int) := by rw [Int.tmod_eq_emod_of_nonneg (by omega)]; omega
  simp only [Option.bind_some, e1, e2]
  have e3 : shl .u64 1 (i : Int) = ((2 ^ i : Nat) : Int) := by
    unfold shl
    have hm : min ((i : Int)).toNat (IntKind.u64.bits) = i := by simp [IntKind.bits]; omega
    rw [hm, Int.one_mul]
    have hp : 2 ^ i < 2 ^ 24 := Nat.pow_lt_pow_right (by decide) (by omega)
    rw [wrap_u64 _ (by exact_mod_cast Nat.zero_le (2 ^ i)) (by
      have : ((2 ^ i : Nat) : Int) < ((2 ^ 64 : Nat) : Int) := by exact_mod_cast Nat.lt_of_lt_of_le hp (by decide)
      exact_mod_cast this)]
    norm_cast
  have e4 : Go.bits .or .u64 (w : Int) ((2 ^ i : Nat) : Int) = ((w ||| 2 ^ i : Nat) : Int) := by
    have hp : 2 ^ i < 2 ^ 24 := Nat.pow_lt_pow_right (by decide) (by omega)
    exact (bits_nat .u64 64 (by decide) wrap_u64 w (2 ^ i) (Nat.lt_of_lt_of_le hw (by decide)) (Nat.lt_of_lt_of_le hp (by decide))).2
  rw [e3]
  have e5 : rd (List.take (min [(w : Int)].length [(0 : Int)].length) [(w : Int)] ++ List.drop (min [(w : Int)].length [(0 : Int)].length) [(0 : Int)]) 0 = (w : Int) := rfl
  rw [if_pos (by simp), if_pos (by simp), if_pos (by omega), e5, e4]
  rfl
theorem has_val (n w a : Nat) (hn : n ≤ 24) (ha : a < n) (hw : w < 2 ^ 24) : bits_Set_Has.f (n : Int) [(w : Int)] (a : Int) = some (w.testBit a) := by
  have e1 : wrap64 (Int.tdiv (a : Int) 64) = 0 := by
    rw [Int.tdiv_eq_ediv_of_nonneg (by omega), show (a : Int) / 64 = 0 by omega]
    exact w64_of (by decide) (by decide)
  have e2 : Int.tmod (a : Int) 64 = (a : Int) := by rw [Int.tmod_eq_emod_of_nonneg (by omega)]; omega
  unfold bits_Set_Has.f
  rw [e1, e2]
  have e3 : shr .u64 (rd [(w : Int)] 0) (a : Int) = ((w / 2 ^ a : Nat) : Int) := by
    unfold shr
    have hm : min ((a : Int)).toNat (IntKind.u64.bits) = a := by simp [IntKind.bits]; omega
    rw [hm]
    show (w : Int) / 2 ^ a = _
    norm_cast
  have hlt : w / 2 ^ a < 2 ^ 64 := Nat.lt_of_le_of_lt (Nat.div_le_self _ _) (Nat.lt_of_lt_of_le hw (by decide))
  have e4 : Go.bits .and .u64 ((w / 2 ^ a : Nat) : Int) 1 = ((w / 2 ^ a % 2 : Nat) : Int) := by
    have := (bits_nat .u64 64 (by decide) wrap_u64 (w / 2 ^ a) 1 hlt (by decide)).1
    rw [show ((1 : Nat) : Int) = 1 from rfl] at this
    rw [this, Nat.and_one_is_mod]
  rw [if_pos (by omega), if_pos (by omega), if_pos (by simp), if_pos (by simp), if_pos (by omega), e3, e4, Nat.testBit_eq_decide_div_mod_eq]
  congr 1
  rw [Bool.eq_iff_iff]
  simp only [beq_iff_eq, decide_eq_true_eq]
  omega
theorem or_lt (w i : Nat) (hw : w < 2 ^ 24) (hi : i < 24) : w ||| 2 ^ i < 2 ^ 24 := Nat.or_lt_two_pow hw (Nat.pow_lt_pow_right (by decide) hi)
theorem or_bit (w i a : Nat) : (w ||| 2 ^ i).testBit a = true ↔ w.testBit a = true ∨ a = i := by
  rw [Nat.testBit_or, Nat.testBit_two_pow]
  simp only [Bool.or_eq_true, decide_eq_true_eq]
  exact ⟨fun h => h.imp id Eq.symm, fun h => h.imp id Eq.symm⟩
/-- The places of a set. -/
def bl (w n : Nat) : List Int := ((List.range n).filter fun i => w.testBit i).map fun i : Nat => (i : Int)
theorem ctz_bits (x : Nat) (h0 : 0 < x) (h : x < 2 ^ 24) : ∃ t, Lib.ctz 64 x = t ∧ t < 24 ∧ (∀ i, x.testBit i = true ↔ i = t ∨ (x &&& (x - 1)).testBit i = true) ∧ (∀ i, (x &&& (x - 1)).testBit i = true → t < i) ∧ x &&& (x - 1) < x := by
  obtain ⟨m, hm, hk⟩ := Lib.ctzFrom_spec 64 x h0 (Nat.lt_of_lt_of_le h (by decide))
  have e : Lib.ctz 64 x = Lib.ctzFrom 64 x := by simp [Lib.ctz, show x ≠ 0 by omega]
  generalize Lib.ctzFrom 64 x = t at hm hk e
  have ht : t < 24 := by
    refine Classical.byContradiction fun hn => ?_
    have h1 : 2 ^ 24 ≤ 2 ^ t := Nat.pow_le_pow_right (by decide) (by omega)
    have h2 : 2 ^ t * 1 ≤ 2 ^ t * (2 * m + 1) := Nat.mul_le_mul_left _ (by omega)
    omega
  have hp : 0 < 2 ^ t := Nat.pow_pos (by decide)
  have hx1 : x - 1 = 2 ^ t * (2 * m) + (2 ^ t - 1) := by
    rw [hm, Nat.mul_add, Nat.mul_one]; omega
  have hbx : ∀ i, x.testBit i = (decide (t ≤ i) && (2 * m + 1).testBit (i - t)) := by intro i; rw [hm, Nat.testBit_two_pow_mul]
  have hb1 : ∀ i, t ≤ i → (x - 1).testBit i = (2 * m).testBit (i - t) := by
    intro i hi
    rw [Nat.testBit_eq_decide_div_mod_eq, Nat.testBit_eq_decide_div_mod_eq]
    have e1 : (x - 1) / 2 ^ i = 2 * m / 2 ^ (i - t) := by
      rw [show (2 : Nat) ^ i = 2 ^ t * 2 ^ (i - t) by rw [← Nat.pow_add]; congr 1; omega, ← Nat.div_div_eq_div_mul]
      congr 1
      rw [hx1, Nat.mul_add_div hp, Nat.div_eq_of_lt (by omega), Nat.add_zero]
    rw [e1]
  have hand : ∀ i, (x &&& (x - 1)).testBit i = true ↔ t < i ∧ m.testBit (i - t - 1) = true := by
    intro i
    rw [Nat.testBit_and, Bool.and_eq_true, hbx, Bool.and_eq_true, decide_eq_true_eq]
    constructor
    · rintro ⟨⟨h1, h2⟩, h3⟩
      rw [hb1 i h1] at h3
      obtain ⟨j, hj⟩ : ∃ j, i - t = j := ⟨_, rfl⟩
      rw [hj] at h3 h2
      cases j with
      | zero => simp at h3
      | succ j =>
        rw [Nat.testBit_succ, Nat.mul_div_cancel_left _ (by decide)] at h3
        exact ⟨by omega, by rw [show i - t - 1 = j by omega]; exact h3⟩
    · rintro ⟨h1, h2⟩
      obtain ⟨j, hj⟩ : ∃ j, i - t = j + 1 := ⟨i - t - 1, by omega⟩
      rw [show i - t - 1 = j by omega] at h2
      rw [hb1 i (by omega), hj]
      refine ⟨⟨by omega, ?_⟩, ?_⟩
      · rw [Nat.testBit_succ, show (2 * m + 1) / 2 = m by omega]; exact h2
      · rw [Nat.testBit_succ, Nat.mul_div_cancel_left _ (by decide)]; exact h2
  refine ⟨t, e, ht, fun i => ?_, fun i hi => ((hand i).mp hi).1, ?_⟩
  · rw [hand, hbx, Bool.and_eq_true, decide_eq_true_eq]
    constructor
    · rintro ⟨h1, h2⟩
      by_cases e1 : i = t
      · exact .inl e1
      · obtain ⟨j, hj⟩ : ∃ j, i - t = j + 1 := ⟨i - t - 1, by omega⟩
        rw [hj, Nat.testBit_succ, show (2 * m + 1) / 2 = m by omega] at h2
        exact .inr ⟨by omega, by rw [show i - t - 1 = j by omega]; exact h2⟩
    · rintro (rfl | ⟨h1, h2⟩)
      · exact ⟨Nat.le_refl _, by rw [Nat.sub_self]; simp⟩
      · obtain ⟨j, hj⟩ : ∃ j, i - t = j + 1 := ⟨i - t - 1, by omega⟩
        rw [show i - t - 1 = j by omega] at h2
        exact ⟨by omega, by rw [hj, Nat.testBit_succ, show (2 * m + 1) / 2 = m by omega]; exact h2⟩
  · have h1 : x &&& (x - 1) ≤ x - 1 := Nat.and_le_right
    omega
theorem bl_step (x n : Nat) {t : Nat} (hn : t < n) (h : ∀ i, x.testBit i = true ↔ i = t ∨ (x &&& (x - 1)).testBit i = true) (h2 : ∀ i, (x &&& (x - 1)).testBit i = true → t < i) : bl x n = (t : Int) :: bl (x &&& (x - 1)) n := by
  refine PdC.rise_eq _ _ (PdC.range_rise n _) ?_ fun y => ?_
  · rw [List.pairwise_cons]
    refine ⟨fun y hy => ?_, PdC.range_rise n _⟩
    simp only [bl, List.mem_map, List.mem_filter, List.mem_range] at hy
    obtain ⟨i, ⟨_, hi⟩, rfl⟩ := hy
    have := h2 i hi
    omega
  · simp only [bl, List.mem_map, List.mem_filter, List.mem_range, List.mem_cons]
    constructor
    · rintro ⟨i, ⟨hi, hb⟩, rfl⟩
      rcases (h i).mp hb with e | e
      · exact .inl (by rw [e])
      · exact .inr ⟨i, ⟨hi, e⟩, rfl⟩
    · rintro (rfl | ⟨i, ⟨hi, hb⟩, rfl⟩)
      · exact ⟨t, ⟨hn, (h t).mpr (.inl rfl)⟩, rfl⟩
      · exact ⟨i, ⟨hi, (h i).mpr (.inr hb)⟩, rfl⟩
theorem bl_zero (n : Nat) : bl 0 n = [] := by simp [bl]
theorem l1_ev (n : Nat) (w0 : Nat) (hn : n ≤ 24) : ∀ M w : Nat, w ≤ M → w < 2 ^ n → ∀ acc : List Int, acc.length + (bl w n).length ≤ 24 → Ev (fun k => bits_Set_List.l1 k acc 0 (w : Int) [(w0 : Int)] 1 0) (acc ++ bl w n) := by
  intro M
  induction M with
  | zero =>
    intro w hw hlt acc hl
    obtain rfl : w = 0 := by omega
    refine ⟨2, fun k hk => ?_⟩
    obtain ⟨k, rfl⟩ : ∃ q, k = q + 2 := ⟨k - 2, by omega⟩
    simp only [bits_Set_List.l1]
    rw [if_pos (by rfl)]
    have e1 : wrap64 (0 + 1) = 1 := w64_of (by decide) (by decide)
    rw [e1]
    simp only [bits_Set_List.l0]
    rw [if_neg (by decide), bl_zero, List.append_nil]
  | succ M ih =>
    intro w hw hlt acc hl
    by_cases h0 : w = 0
    · subst h0; exact ih 0 (by omega) hlt acc hl
    · have h24 : w < 2 ^ 24 := Nat.lt_of_lt_of_le hlt (Nat.pow_le_pow_right (by decide) hn)
      obtain ⟨t, e1, ht, h1, h2, h3⟩ := ctz_bits w (by omega) h24
      have htn : t < n := by
        refine Classical.byContradiction fun hn2 => ?_
        have hb : w.testBit t = true := (h1 t).mpr (.inl rfl)
        have := Nat.testBit_lt_two_pow (Nat.lt_of_lt_of_le hlt (Nat.pow_le_pow_right (by decide) (show n ≤ t by omega)))
        rw [this] at hb
        cases hb
      have eb := bl_step w n htn h1 h2
      have hlen : acc.length + 1 + (bl (w &&& (w - 1)) n).length ≤ 24 := by rw [eb] at hl; simp only [List.length_cons] at hl; omega
      obtain ⟨K, g⟩ := ih (w &&& (w - 1)) (by omega) (by omega) (acc ++ [(t : Int)]) (by rw [List.length_append]; simpa using hlen)
      simp only at g
      refine ⟨K + 1, fun k hk => ?_⟩
      obtain ⟨k, rfl⟩ : ∃ q, k = q + 1 := ⟨k - 1, by omega⟩
      simp only [bits_Set_List.l1]
      rw [if_neg (by omega)]
      have etz : bits_TrailingZeros64.f (w : Int) = some (t : Int) := by
        unfold bits_TrailingZeros64.f
        have hbig : (w : Int) < 18446744073709551616 := by omega
        rw [if_pos ⟨by omega, hbig⟩, Int.toNat_natCast, e1]
      rw [etz]
      simp only [Option.bind_some]
      rw [if_pos (by omega)]
      have e2 : wrap64 (wrap64 (64 * 0) + (t : Int)) = (t : Int) := by
        rw [show wrap64 (64 * 0) = 0 from w64_of (by decide) (by decide), Int.zero_add]
        exact w64_of (by omega) (by omega)
      have e3 : Go.bits .and .u64 (w : Int) (IntKind.u64.wrap ((w : Int) - 1)) = ((w &&& (w - 1) : Nat) : Int) := by
        have e4 : IntKind.u64.wrap ((w : Int) - 1) = ((w - 1 : Nat) : Int) := by
          rw [wrap_u64 _ (by omega) (by omega)]; omega
        rw [e4]
        exact (bits_nat .u64 64 (by decide) wrap_u64 w (w - 1) (Nat.lt_of_lt_of_le h24 (by decide)) (Nat.lt_of_le_of_lt (Nat.sub_le _ _) (Nat.lt_of_lt_of_le h24 (by decide)))).1
      rw [e2, e3, g k (by omega), eb]
      simp
theorem list_ev (n w : Nat) (hn : n ≤ 24) (hw : w < 2 ^ n) (r : Int) : Ev (fun k => bits_Set_List.f k r [(w : Int)]) (bl w n) := by
  have hbl : (bl w n).length ≤ 24 := by
    unfold bl
    rw [List.length_map]
    exact Nat.le_trans (List.length_filter_le _ _) (by simpa using hn)
  obtain ⟨K, g⟩ := l1_ev n w hn w w (Nat.le_refl _) hw [] (by simpa using hbl)
  simp only at g
  refine ⟨K + 1, fun k hk => ?_⟩
  obtain ⟨k, rfl⟩ : ∃ q, k = q + 1 := ⟨k - 1, by omega⟩
  simp only [bits_Set_List.f, bits_Set_List.l0]
  rw [if_pos (by simp), if_pos (by decide), if_pos (by simp)]
  have e : rd [(w : Int)] 0 = (w : Int) := rfl
  rw [e]
  have e2 : (([(w : Int)] : List Int).length : Int) = 1 := rfl
  rw [e2, g k (by omega)]
  rfl
end Go.Proofs.YtfiffhcpgojkhaaDoor.PlbLoopNests
/- loop.body: just the loop's places, in order; plain. No condition but that the graph is small. -/
namespace Go.Proofs.YtfiffhcpgojkhaaDoor.PlbLoopNests
open Go.Proofs.YtfiffhcpgojkhaaDoor Go.Proofs.YtfiffhcpgojkhaaDoor.QLoopNests Go.Proofs.YtfiffhcpgojkhaaDoor.PdB Go.Proofs.YtfiffhcpgojkhaaDoor.DomA Go.Proofs.YtfiffhcpgojkhaaDoor.DomF Go.Proofs.YtfiffhcpgojkhaaDoor.DomP Go.Proofs.YtfiffhcpgojkhaaDoor.DomT Go.Proofs.YtfiffhcpgojkhaaDoor.LoopT Go.RowKit Go.Proofs.YtfiffhcpgojkhaaDoorW.PrintWords Go.Proofs.YtfiffhcpgojkhaaDoorW.PrintLast Go.Proofs.YtfiffhcpgojkhaaDoorW.PrintMore
set_option linter.unusedSimpArgs false
set_option linter.unusedVariables false
/-- How many places a set has. -/
def cn (w n : Nat) : Nat := ((List.range n).filter fun i => w.testBit i).length
theorem cn_le (w n : Nat) : cn w n ≤ n := by
  unfold cn
  exact Nat.le_trans (List.length_filter_le _ _) (by simp)
theorem cn_add (w i : Nat) (h : w.testBit i = false) : ∀ n, cn (w ||| 2 ^ i) n = cn w n + if i < n then 1 else 0 := by
  intro n
  induction n with
  | zero => simp [cn]
  | succ n ih =>
    unfold cn at ih ⊢
    rw [List.range_succ, List.filter_append, List.filter_append, List.length_append, List.length_append, ih]
    have hb : (w ||| 2 ^ i).testBit n = (w.testBit n || decide (i = n)) := by rw [Nat.testBit_or, Nat.testBit_two_pow]
    by_cases e : i = n
    · subst e
      have e1 : List.filter (fun a => (w ||| 2 ^ i).testBit a) [i] = [i] := by simp [List.filter, hb]
      have e2 : List.filter (fun a => w.testBit a) [i] = [] := by simp [List.filter, h]
      rw [e1, e2]
      simp
    · have e1 : List.filter (fun a => (w ||| 2 ^ i).testBit a) [n] = List.filter (fun a => w.testBit a) [n] := by simp [List.filter, hb, e]
      rw [e1]
      by_cases c : i < n
      · rw [if_pos c, if_pos (by omega)]; omega
      · rw [if_neg c, if_neg (by omega)]; omega
theorem or_lt' (w i n : Nat) (hw : w < 2 ^ n) (hi : i < n) : w ||| 2 ^ i < 2 ^ n := Nat.or_lt_two_pow hw (Nat.pow_lt_pow_right (by decide) hi)
theorem waits_val (n : Nat) (hn : n ≤ 24) : ∀ (is : List Int), (∀ p ∈ is, ∃ u : Nat, p = (u : Int) ∧ u < n) → ∀ (w : Nat) (q : List Int), w < 2 ^ n → (n - cn w n) + q.length ≤ 1000 →
    ∃ (w2 : Nat) (q2 : List Int), waitsF is ((n : Int), [(w : Int)]) q = some (((n : Int), [(w2 : Int)]), q2) ∧ w2 < 2 ^ n ∧ (n - cn w2 n) + q2.length ≤ (n - cn w n) + q.length ∧ (∀ a : Nat, w2.testBit a = true ↔ w.testBit a = true ∨ (a : Int) ∈ is) ∧ ∀ p, p ∈ q2 ↔ p ∈ q ∨ ∃ a : Nat, p = (a : Int) ∧ p ∈ is ∧ w.testBit a = false := by
  intro is
  induction is with
  | nil => intro _ w q hw hm; exact ⟨w, q, rfl, hw, Nat.le_refl _, fun a => by simp, fun p => by simp⟩
  | cons x is ih =>
    intro hi w q hw hm
    obtain ⟨i, rfl, hin⟩ := hi x (by simp)
    have h24 : w < 2 ^ 24 := Nat.lt_of_lt_of_le hw (Nat.pow_le_pow_right (by decide) hn)
    have hcn := cn_le w n
    simp only [waitsF, waitF]
    rw [has_val n w i hn hin h24]
    simp only [Option.bind_some]
    cases hb : w.testBit i with
    | true =>
      rw [if_pos rfl]
      simp only [Option.bind_some]
      obtain ⟨w2, q2, h1, h2, h3, h4, h5⟩ := ih (fun p hp => hi p (by simp [hp])) w q hw hm
      refine ⟨w2, q2, h1, h2, h3, fun a => ?_, fun p => ?_⟩
      · rw [h4, List.mem_cons]
        constructor
        · rintro (h | h)
          · exact .inl h
          · exact .inr (.inr h)
        · rintro (h | h | h)
          · exact .inl h
          · have : a = i := by omega
            subst this; exact .inl hb
          · exact .inr h
      · rw [h5]
        constructor
        · rintro (h | ⟨a, e, h, h'⟩)
          · exact .inl h
          · exact .inr ⟨a, e, by simp [h], h'⟩
        · rintro (h | ⟨a, e, h, h'⟩)
          · exact .inl h
          · rcases List.mem_cons.mp h with h | h
            · have : a = i := by omega
              subst this; rw [hb] at h'; cases h'
            · exact .inr ⟨a, e, h, h'⟩
    | false =>
      rw [if_neg (by decide), if_pos (by omega), with_val n w i hn hin h24]
      simp only [Option.bind_some]
      have hc := cn_add w i hb n
      rw [if_pos hin] at hc
      have hcn2 := cn_le (w ||| 2 ^ i) n
      obtain ⟨w2, q2, h1, h2, h3, h4, h5⟩ := ih (fun p hp => hi p (by simp [hp])) (w ||| 2 ^ i) (q ++ [(i : Int)]) (or_lt' w i n hw hin) (by rw [List.length_append]; simp only [List.length_cons, List.length_nil]; omega)
      refine ⟨w2, q2, h1, h2, by rw [List.length_append] at h3; simp only [List.length_cons, List.length_nil] at h3; omega, fun a => ?_, fun p => ?_⟩
      · rw [h4, or_bit, List.mem_cons]
        constructor
        · rintro ((h | h) | h)
          · exact .inl h
          · exact .inr (.inl (by rw [h]))
          · exact .inr (.inr h)
        · rintro (h | h | h)
          · exact .inl (.inl h)
          · exact .inl (.inr (by omega))
          · exact .inr h
      · rw [h5, List.mem_append]
        have hf : ∀ a : Nat, (w ||| 2 ^ i).testBit a = false ↔ w.testBit a = false ∧ a ≠ i := by
          intro a
          have := or_bit w i a
          cases h1 : (w ||| 2 ^ i).testBit a <;> cases h2 : w.testBit a <;> simp [h1, h2] at this ⊢ <;> omega
        constructor
        · rintro ((h | h) | ⟨a, e, h, h'⟩)
          · exact .inl h
          · simp only [List.mem_singleton] at h
            exact .inr ⟨i, h, by simp [h], hb⟩
          · exact .inr ⟨a, e, by simp [h], ((hf a).mp h').1⟩
        · rintro (h | ⟨a, e, h, h'⟩)
          · exact .inl (.inl h)
          · by_cases ea : a = i
            · subst ea; exact .inl (.inr (by simp [e]))
            · rcases List.mem_cons.mp h with h | h
              · omega
              · exact .inr ⟨a, e, h, (hf a).mpr ⟨h', ea⟩⟩
theorem go_val {next P : List (List Int)} (h24 : next.length ≤ 24) (hP : P.length = next.length) (rows : ∀ i, i < next.length → ∀ p : Int, p ∈ P.getD i [] ↔ ∃ u : Nat, p = (u : Int) ∧ pre next u i) (pb : ∀ j, (P.getD j []).length < 4611686018427387904) (h : Nat) :
    ∀ (M w : Nat) (q : List Int), w < 2 ^ next.length → (next.length - cn w next.length) + q.length ≤ M → M ≤ 1000 → w.testBit h = true → (∀ p ∈ q, ∃ a : Nat, p = (a : Int) ∧ w.testBit a = true ∧ a ≠ h) → (∀ a, w.testBit a = true → a < next.length ∧ Lb (Rch next) (pre next) h a) → (∀ a, w.testBit a = true → a = h ∨ (a : Int) ∈ q ∨ ∀ u, pre next u a → w.testBit u = true) →
      ∃ w2 : Nat, goF P (M + 1) ((next.length : Int), [(w : Int)]) q = some ((next.length : Int), [(w2 : Int)]) ∧ w2 < 2 ^ next.length ∧ (∀ a, w.testBit a = true → w2.testBit a = true) ∧ (∀ a, w2.testBit a = true → a < next.length ∧ Lb (Rch next) (pre next) h a) ∧ ∀ a, w2.testBit a = true → a = h ∨ ∀ u, pre next u a → w2.testBit u = true := by
  intro M
  induction M with
  | zero =>
    intro w q hw hm _ _ _ hs hc
    obtain rfl : q = [] := List.eq_nil_of_length_eq_zero (by omega)
    exact ⟨w, rfl, hw, fun a ha => ha, hs, fun a ha => (hc a ha).imp id fun h => h.elim (fun h => by cases h) id⟩
  | succ M ih =>
    intro w q hw hm hM hh hq hs hc
    cases q with
    | nil => exact ⟨w, rfl, hw, fun a ha => ha, hs, fun a ha => (hc a ha).imp id fun h => h.elim (fun h => by cases h) id⟩
    | cons x q =>
      obtain ⟨a, rfl, ha, hah⟩ := hq x (by simp)
      obtain ⟨han, hla⟩ := hs a ha
      have erd : rdL P (a : Int) = P.getD a [] := by simp [rdL]
      have hin : ∀ p ∈ P.getD a [], ∃ u : Nat, p = (u : Int) ∧ u < next.length := by
        intro p hp
        obtain ⟨u, e, hu⟩ := (rows a han p).mp hp
        exact ⟨u, e, Rch.lt hu.1⟩
      simp only [List.length_cons] at hm
      obtain ⟨w1, q1, h1, h2, h3, h4, h5⟩ := waits_val next.length h24 (P.getD a []) hin w q hw (by omega)
      have lbu : ∀ u, pre next u a → Lb (Rch next) (pre next) h u := by
        intro u hu
        by_cases e : u = h
        · exact .inl e
        · rcases hla with e2 | ⟨_, _, k, hk, hb⟩
          · exact absurd e2 hah
          · exact .inr ⟨hu.1, e, k, (W.step (.root e) hu hah).trans hk, hb⟩
      obtain ⟨w2, g1, g2, g3, g4, g5⟩ := ih w1 q1 h2 (by omega) (by omega) ((h4 h).mpr (.inl hh)) (fun p hp => by
          rcases (h5 p).mp hp with hp | ⟨b, e, hp, hb⟩
          · obtain ⟨b, e, hb, hbh⟩ := hq p (by simp [hp])
            exact ⟨b, e, (h4 b).mpr (.inl hb), hbh⟩
          · refine ⟨b, e, (h4 b).mpr (.inr (by rw [← e]; exact hp)), fun e2 => ?_⟩
            subst e2
            rw [hh] at hb; cases hb) (fun b hb => by
          rcases (h4 b).mp hb with hb | hb
          · exact hs b hb
          · obtain ⟨u, e, hu⟩ := (rows a han _).mp hb
            obtain rfl : b = u := by omega
            exact ⟨Rch.lt hu.1, lbu b hu⟩) (fun b hb => by
          rcases (h4 b).mp hb with hb' | hb'
          · rcases hc b hb' with e | e | e
            · exact .inl e
            · rcases List.mem_cons.mp e with e | e
              · obtain rfl : b = a := by omega
                exact .inr (.inr fun u hu => (h4 u).mpr (.inr ((rows b han _).mpr ⟨u, rfl, hu⟩)))
              · exact .inr (.inl ((h5 _).mpr (.inl e)))
            · exact .inr (.inr fun u hu => (h4 u).mpr (.inl (e u hu)))
          · cases hw' : w.testBit b with
            | true =>
              rcases hc b hw' with e | e | e
              · exact .inl e
              · rcases List.mem_cons.mp e with e | e
                · obtain rfl : b = a := by omega
                  exact .inr (.inr fun u hu => (h4 u).mpr (.inr ((rows b han _).mpr ⟨u, rfl, hu⟩)))
                · exact .inr (.inl ((h5 _).mpr (.inl e)))
              · exact .inr (.inr fun u hu => (h4 u).mpr (.inl (e u hu)))
            | false => exact .inr (.inl ((h5 _).mpr (.inr ⟨b, rfl, hb', hw'⟩))))
      refine ⟨w2, ?_, g2, fun b hb => g3 b ((h4 b).mpr (.inl hb)), g4, g5⟩
      rw [goF, if_pos ⟨by omega, by omega, by rw [erd]; exact pb a⟩, erd, h1]
      exact g1
/-- What loop.body answers. -/
theorem body_ev {next P : List (List Int)} (h24 : next.length ≤ 24) (hP : P.length = next.length) (rows : ∀ i, i < next.length → ∀ p : Int, p ∈ P.getD i [] ↔ ∃ u : Nat, p = (u : Int) ∧ pre next u i) (pb : ∀ j, (P.getD j []).length < 4611686018427387904) (h : Nat) (hh : h < next.length)
    (F : List Int) (hF : ∀ p : Int, p ∈ F ↔ ∃ u : Nat, p = (u : Int) ∧ Bk (pre next) u h) (hFl : F.length < 4611686018427387904) :
    ∃ r, Ev (fun k => loop_body.f k P (h : Int) F) r ∧ r.length ≤ 24 ∧ r.Pairwise (· < ·) ∧ ∀ x : Int, x ∈ r ↔ ∃ a : Nat, x = (a : Int) ∧ a < next.length ∧ Lb (Rch next) (pre next) h a := by
  have hw0 : 0 ||| 2 ^ h < 2 ^ next.length := or_lt' 0 h next.length (Nat.pow_pos (by decide)) hh
  have hb0 : ∀ a, (0 ||| 2 ^ h).testBit a = true ↔ a = h := fun a => by rw [or_bit]; simp
  have hFn : ∀ p ∈ F, ∃ u : Nat, p = (u : Int) ∧ u < next.length := by
    intro p hp
    obtain ⟨u, e, hu⟩ := (hF p).mp hp
    exact ⟨u, e, Rch.lt hu.1.1⟩
  obtain ⟨w1, q1, h1, h2, h3, h4, h5⟩ := waits_val next.length h24 F hFn (0 ||| 2 ^ h) [] hw0 (by simp; omega)
  have lbF : ∀ u : Nat, (u : Int) ∈ F → u < next.length ∧ Lb (Rch next) (pre next) h u := by
    intro u hu
    obtain ⟨v, e, hv⟩ := (hF _).mp hu
    obtain rfl : u = v := by omega
    refine ⟨Rch.lt hv.1.1, ?_⟩
    by_cases e : u = h
    · exact .inl e
    · exact .inr ⟨hv.1.1, e, u, .root e, hv⟩
  obtain ⟨w2, g1, g2, g3, g4, g5⟩ := go_val h24 hP rows pb h next.length w1 q1 h2 (by simp at h3; omega) (by omega) ((h4 h).mpr (.inl ((hb0 h).mpr rfl))) (fun p hp => by
      rcases (h5 p).mp hp with hp | ⟨b, e, hp, hb⟩
      · cases hp
      · refine ⟨b, e, (h4 b).mpr (.inr (by rw [← e]; exact hp)), fun e2 => ?_⟩
        subst e2
        rw [(hb0 b).mpr rfl] at hb; cases hb) (fun a ha => by
      rcases (h4 a).mp ha with ha | ha
      · rw [hb0] at ha; subst ha; exact ⟨hh, .inl rfl⟩
      · exact lbF a ha) (fun a ha => by
      rcases (h4 a).mp ha with ha' | ha'
      · exact .inl ((hb0 a).mp ha')
      · cases hw' : (0 ||| 2 ^ h).testBit a with
        | true => exact .inl ((hb0 a).mp hw')
        | false => exact .inr (.inl ((h5 _).mpr (.inr ⟨a, rfl, ha', hw'⟩))))
  have full : ∀ a, Lb (Rch next) (pre next) h a → w2.testBit a = true := by
    rintro a (e | ⟨hr, hne, k, hk, hb⟩)
    · subst e; exact g3 a ((h4 a).mpr (.inl ((hb0 a).mpr rfl)))
    · have hkF : w2.testBit k = true := g3 k ((h4 k).mpr (.inr ((hF _).mpr ⟨k, rfl, hb⟩)))
      have key : ∀ z, W (pre next) h a z → w2.testBit z = true → w2.testBit a = true := by
        intro z hz
        induction hz with
        | root _ => exact id
        | @step y z hy hp hz ih => exact fun ht => ih (((g5 z ht).resolve_left hz) y hp)
      exact key k hk hkF
  obtain ⟨K, g⟩ := list_ev next.length w2 h24 g2 (next.length : Int)
  simp only at g
  have hlen : (bl w2 next.length).length ≤ 24 := by
    unfold bl
    rw [List.length_map]
    exact Nat.le_trans (List.length_filter_le _ _) (by simpa using h24)
  refine ⟨bl w2 next.length, ⟨max K (next.length + 1), fun k hk => ?_⟩, hlen, PdC.range_rise _ _, fun x => ?_⟩
  · simp only [loop_body.f]
    rw [if_pos hFl, hP, new_val next.length (by omega) h24]
    simp only [Option.bind_some]
    have ew := with_val next.length 0 h h24 hh (by decide)
    rw [show ((0 : Nat) : Int) = 0 from rfl] at ew
    rw [ew]
    simp only [Option.bind_some]
    rw [h1]
    simp only [Option.bind_some]
    have gm : ∀ d, goF P (next.length + 1 + d) ((next.length : Int), [(w1 : Int)]) q1 = some ((next.length : Int), [(w2 : Int)]) := by
      intro d
      induction d with
      | zero => exact g1
      | succ d ih => exact goF_mono _ _ _ _ _ ih
    have e := gm (k - (next.length + 1))
    rw [show next.length + 1 + (k - (next.length + 1)) = k by omega] at e
    rw [e]
    simp only [Option.bind_some]
    exact g k (by omega)
  · simp only [bl, List.mem_map, List.mem_filter, List.mem_range]
    constructor
    · rintro ⟨a, ⟨h1, h2⟩, rfl⟩
      exact ⟨a, rfl, h1, (g4 a h2).2⟩
    · rintro ⟨a, rfl, h1, h2⟩
      exact ⟨a, ⟨h1, full a h2⟩, rfl⟩
end Go.Proofs.YtfiffhcpgojkhaaDoor.PlbLoopNests
/- loop.Backs and the document's Back: just the back edges; plain. No condition but that the graph is small. -/
namespace Go.Proofs.YtfiffhcpgojkhaaDoor.PlbLoopNests
open Go.Proofs.YtfiffhcpgojkhaaDoor Go.Proofs.YtfiffhcpgojkhaaDoor.QLoopNests Go.Proofs.YtfiffhcpgojkhaaDoor.PdB Go.Proofs.YtfiffhcpgojkhaaDoor.PddLoopNests Go.Proofs.YtfiffhcpgojkhaaDoor.PdwLoopNests Go.Proofs.YtfiffhcpgojkhaaDoor.PhaLoopNests Go.Proofs.YtfiffhcpgojkhaaDoor.DomA Go.Proofs.YtfiffhcpgojkhaaDoor.DomF Go.Proofs.YtfiffhcpgojkhaaDoor.DomP Go.Proofs.YtfiffhcpgojkhaaDoor.DomT Go.Proofs.YtfiffhcpgojkhaaDoor.LoopT Go.RowKit Go.Proofs.YtfiffhcpgojkhaaDoorW.PrintWords Go.Proofs.YtfiffhcpgojkhaaDoorW.PrintLast Go.Proofs.YtfiffhcpgojkhaaDoorW.PrintMore
set_option linter.unusedSimpArgs false
set_option linter.unusedVariables false
theorem walk_dm {next : List (List Int)} (sm : Small next) (hn : 0 < next.length) {T : List Nat} (o : Ord next T) {D : List Int} (hD : D.length = next.length) (hno : D.getD 0 0 = -1) (hyes : ∀ v, Rch next v → v ≠ 0 → ∃ m : Nat, D.getD v 0 = (m : Int) ∧ Rch next m ∧ m ≠ v ∧ at_ T m < at_ T v ∧ ∀ x, Dm next x m ↔ Dm next x v ∧ x ≠ v) (a : Nat) :
    ∀ (r v : Nat), Rch next v → at_ T v + 2 ≤ r → (walk D (a : Int) r (v : Int) = true ↔ Dm next a v) := by
  obtain ⟨refl, trans, lin, anti, rch⟩ := dm_facts next sm hn
  intro r
  induction r with
  | zero => intro v _ h; omega
  | succ r ih =>
    intro v hv hr
    have hvl := Rch.lt hv
    simp only [walk]
    by_cases e : v = a
    · rw [if_pos (by omega)]
      subst e
      simp [refl v hv]
    · rw [if_neg (by omega), if_neg (by omega), if_neg (by omega), rd_nat]
      by_cases h0 : v = 0
      · subst h0
        rw [hno]
        have hno2 : ¬ Dm next a 0 := fun h => h.2 (.root e)
        obtain ⟨r, rfl⟩ : ∃ q, r = q + 1 := ⟨r - 1, by omega⟩
        simp only [walk]
        rw [if_neg (by omega), if_pos (by omega)]
        simp [hno2]
      · obtain ⟨m, h1, h2, h3, h4, h5⟩ := hyes v hv h0
        rw [h1, ih m h2 (by omega), h5 a]
        exact ⟨fun h => h.1, fun h => ⟨h, fun e2 => e e2.symm⟩⟩
theorem E_mem (next : List (List Int)) {i j : Nat} (hi : i < next.length) (hj : j < next.length) : E next i j ↔ (j : Int) ∈ next.getD i [] := ⟨fun h => h.1, fun h => ⟨h, hj⟩⟩
open Classical in
/-- The back edges from a place, as its row tells them. -/
noncomputable def colR (next : List (List Int)) (i : Int) (row : List Int) : List S29 := (row.filter fun c => decide (0 ≤ c ∧ c < (next.length : Int) ∧ Dm next c.toNat i.toNat)).map fun c => ⟨i, c⟩
theorem colR_len (next : List (List Int)) (i : Int) (row : List Int) : (colR next i row).length ≤ row.length := by
  unfold colR
  rw [List.length_map]
  exact List.length_filter_le _ _
section
variable {next : List (List Int)} (sm : Small next) (hn : 0 < next.length) {T : List Nat} (o : Ord next T) {D : List Int} (hD : D.length = next.length) (hno : D.getD 0 0 = -1) (hyes : ∀ v, Rch next v → v ≠ 0 → ∃ m : Nat, D.getD v 0 = (m : Int) ∧ Rch next m ∧ m ≠ v ∧ at_ T m < at_ T v ∧ ∀ x, Dm next x m ↔ Dm next x v ∧ x ≠ v)
include sm hn o hD hno hyes
theorem domD_ev (a b : Nat) (ha : a < next.length) (hb : Rch next b) : ∃ d : Bool, Ev (fun k => dom_Dominates.f k D (a : Int) (b : Int)) d ∧ (d = true ↔ Dm next a b) := by
  have hbl := Rch.lt hb
  have hTl : (0 :: T).length ≤ next.length := nodup_len _ _ o.nd fun v hv => Rch.lt ((o.mem v).mp hv)
  have hat := at_lt o hb
  have hs := sm.1
  have h1 := dom_f D (a : Int) (b : Int) (by omega)
  rw [if_neg (by omega), if_neg (by omega)] at h1
  refine ⟨_, h1, walk_dm sm hn o hD hno hyes a _ b hb ?_⟩
  simp only [List.length_cons] at hTl
  omega
theorem bl1_ev (O : List Int) (len m i : Int) (b : Nat) (hi : i = (b : Int)) (hb : Rch next b) : ∀ (r j : Nat) (acc : List S29), j + r = (rd_L1 next i).length → acc.length + r ≤ 1000000000 →
    ∀ R, Ev (fun k => loop_Backs.l0 k next D (acc ++ colR next i ((rd_L1 next i).drop j)) O len (wrap64 (m + 1))) R → Ev (fun k => loop_Backs.l1 k next D acc i O len m (rd_L1 next i) ((rd_L1 next i).length : Int) (j : Int)) R := by
  have hbl := Rch.lt hb
  have hrow : (rd_L1 next i).length ≤ 1000 := by
    have := sm.2 b
    have e : rd_L1 next i = next.getD b [] := by simp [rd_L1, hi]
    rw [e]; exact this
  intro r
  induction r with
  | zero =>
    intro j acc hj ha R ⟨K, g⟩
    simp only at g
    refine ⟨K + 1, fun k hk => ?_⟩
    obtain ⟨k, rfl⟩ : ∃ q, k = q + 1 := ⟨k - 1, by omega⟩
    simp only [loop_Backs.l1]
    rw [if_neg (by omega)]
    have e : (rd_L1 next i).drop j = [] := List.drop_eq_nil_of_le (by omega)
    have g' := g k (by omega)
    rw [e] at g'
    simpa [colR] using g'
  | succ r ih =>
    intro j acc hj ha R hR
    have hlt : j < (rd_L1 next i).length := by omega
    have hdrop := PdC.drop_rd (rd_L1 next i) j hlt
    generalize hrw : rd_L1 next i = row at *
    rw [hdrop] at hR
    have hwn : wrap64 ((j : Int) + 1) = ((j + 1 : Nat) : Int) := PdC.wnext j (by omega)
    generalize hc : rd row (j : Int) = c at *
    by_cases c0 : 0 ≤ c ∧ c < (next.length : Int)
    · obtain ⟨a, rfl⟩ : ∃ a : Nat, c = (a : Int) := ⟨c.toNat, by omega⟩
      obtain ⟨d, ⟨K1, g1⟩, hd⟩ := domD_ev sm hn o hD hno hyes a b (by omega) hb
      simp only at g1
      by_cases hdm : Dm next a b
      · have ecol : colR next i ((a : Int) :: row.drop (j + 1)) = ⟨i, (a : Int)⟩ :: colR next i (row.drop (j + 1)) := by
          unfold colR
          rw [List.filter_cons, if_pos (by simp only [decide_eq_true_eq]; exact ⟨c0.1, c0.2, by rw [hi, Int.toNat_natCast, Int.toNat_natCast]; exact hdm⟩)]
          rfl
        rw [ecol] at hR
        obtain ⟨K, g⟩ := ih (j + 1) (acc ++ [⟨i, (a : Int)⟩]) (by omega) (by rw [List.length_append]; simp only [List.length_cons, List.length_nil]; omega) R (by rw [List.append_assoc]; exact hR)
        simp only at g
        refine ⟨max K K1 + 1, fun k hk => ?_⟩
        obtain ⟨k, rfl⟩ : ∃ q, k = q + 1 := ⟨k - 1, by omega⟩
        simp only [loop_Backs.l1]
        rw [if_pos (by omega), if_pos (by omega), if_pos (by omega), hc, if_pos c0.1, if_pos c0.2, hi, g1 k (by omega)]
        simp only [Option.bind_some]
        rw [if_pos (hd.mpr hdm), if_pos (by omega), hwn, ← hi]
        exact g k (by omega)
      · have ecol : colR next i ((a : Int) :: row.drop (j + 1)) = colR next i (row.drop (j + 1)) := by
          unfold colR
          rw [List.filter_cons, if_neg (by simp only [decide_eq_true_eq]; intro h; exact hdm (by have := h.2.2; rw [hi, Int.toNat_natCast, Int.toNat_natCast] at this; exact this))]
        rw [ecol] at hR
        obtain ⟨K, g⟩ := ih (j + 1) acc (by omega) (by omega) R hR
        simp only at g
        refine ⟨max K K1 + 1, fun k hk => ?_⟩
        obtain ⟨k, rfl⟩ : ∃ q, k = q + 1 := ⟨k - 1, by omega⟩
        simp only [loop_Backs.l1]
        rw [if_pos (by omega), if_pos (by omega), if_pos (by omega), hc, if_pos c0.1, if_pos c0.2, hi, g1 k (by omega)]
        simp only [Option.bind_some]
        rw [if_neg (fun h => hdm (hd.mp h)), hwn, ← hi]
        exact g k (by omega)
    · have ecol : colR next i (c :: row.drop (j + 1)) = colR next i (row.drop (j + 1)) := by
        unfold colR
        rw [List.filter_cons, if_neg (by simp only [decide_eq_true_eq]; exact fun h => c0 ⟨h.1, h.2.1⟩)]
      rw [ecol] at hR
      obtain ⟨K, g⟩ := ih (j + 1) acc (by omega) (by omega) R hR
      simp only at g
      refine ⟨K + 1, fun k hk => ?_⟩
      obtain ⟨k, rfl⟩ : ∃ q, k = q + 1 := ⟨k - 1, by omega⟩
      simp only [loop_Backs.l1]
      rw [if_pos (by omega), if_pos (by omega), if_pos (by omega), hc]
      by_cases c1 : 0 ≤ c
      · rw [if_pos c1, if_neg (fun h => c0 ⟨c1, h⟩), hwn]
        exact g k (by omega)
      · rw [if_neg c1, hwn]
        exact g k (by omega)
theorem bl0_ev (O : List Int) (hO : ∀ x ∈ O, ∃ b : Nat, x = (b : Int) ∧ Rch next b) (hOl : O.length ≤ 1000) : ∀ (r m : Nat) (acc : List S29), m + r = O.length → acc.length + r * 1000 ≤ 1000000 →
    ∃ B, Ev (fun k => loop_Backs.l0 k next D acc O (O.length : Int) (m : Int)) B ∧ B.length ≤ 1000000 ∧ (B.map pr).Pairwise PdP.L2 ∧ ∀ p, p ∈ B ↔ p ∈ acc ∨ ∃ x ∈ O.drop m, p ∈ colR next x (rd_L1 next x) := by
  have hOl2 : O.length ≤ 1000 := hOl
  intro r
  induction r with
  | zero =>
    intro m acc hm ha
    have hne : m = O.length := by omega
    have e1 : slices_SortFunc_2_int_2_int.f acc = some ((sortP (acc.map pr)).map un) := by unfold slices_SortFunc_2_int_2_int.f; rw [if_pos (by omega)]
    have hsl : ((sortP (acc.map pr)).map un).length = acc.length := by rw [List.length_map]; unfold sortP; rw [List.length_mergeSort, List.length_map]
    have hco : Lib.compactUpTo (((sortP (acc.map pr)).map un).map pr).toArray ((sortP (acc.map pr)).map un).length = Lib.compact (sortP (acc.map pr)) := by rw [pr_un, List.length_map]; rfl
    have e2 : slices_Compact_2_int_2_int.f ((sortP (acc.map pr)).map un) = some ((Lib.compact (sortP (acc.map pr))).map un) := by
      unfold slices_Compact_2_int_2_int.f
      rw [if_pos (by omega), hco]
    refine ⟨(Lib.compact (sortP (acc.map pr))).map un, ⟨1, fun k hk => ?_⟩, ?_, ?_, fun p => ?_⟩
    · obtain ⟨k, rfl⟩ : ∃ q, k = q + 1 := ⟨k - 1, by omega⟩
      simp only [loop_Backs.l0]
      rw [if_neg (by omega), e1]
      simp only [Option.bind_some]
      rw [e2]
      rfl
    · rw [List.length_map]
      have := Lib.compact_length_le (sortP (acc.map pr))
      rw [List.length_map] at hsl
      omega
    · rw [pr_un]
      exact PdP.compact_rise _ (PdP.srt (acc.map pr))
    · rw [List.drop_eq_nil_of_le (by omega)]
      have key : ∀ q : Int × Int, q ∈ Lib.compact (sortP (acc.map pr)) ↔ q ∈ acc.map pr := fun q => (PdP.compact_mem _ q).trans (PdP.sort_mem _ q)
      constructor
      · intro hp
        obtain ⟨q, hq, rfl⟩ := List.mem_map.mp hp
        obtain ⟨x, hx, rfl⟩ := List.mem_map.mp ((key q).mp hq)
        exact .inl hx
      · rintro (hp | ⟨x, hx, _⟩)
        · exact List.mem_map.mpr ⟨pr p, (key _).mpr (List.mem_map.mpr ⟨p, hp, rfl⟩), rfl⟩
        · cases hx
  | succ r ih =>
    intro m acc hm ha
    have hlt : m < O.length := by omega
    have hdrop := PdC.drop_rd O m hlt
    have hmem := PdC.rd_mem O m hlt
    obtain ⟨b, hb1, hb⟩ := hO _ hmem
    have hbl := Rch.lt hb
    have hrow : (rd_L1 next (rd O (m : Int))).length ≤ 1000 := by
      have := sm.2 b
      have e : rd_L1 next (rd O (m : Int)) = next.getD b [] := by simp [rd_L1, hb1]
      rw [e]; exact this
    have hcl := colR_len next (rd O (m : Int)) (rd_L1 next (rd O (m : Int)))
    obtain ⟨B, hB, h2, h3, h4⟩ := ih (m + 1) (acc ++ colR next (rd O (m : Int)) (rd_L1 next (rd O (m : Int)))) (by omega) (by rw [List.length_append]; omega)
    have hwn : wrap64 ((m : Int) + 1) = ((m + 1 : Nat) : Int) := PdC.wnext m (by omega)
    obtain ⟨K, g⟩ := bl1_ev sm hn o hD hno hyes O (O.length : Int) (m : Int) (rd O (m : Int)) b hb1 hb (rd_L1 next (rd O (m : Int))).length 0 acc (by omega) (by omega) B (by rw [List.drop_zero, hwn]; exact hB)
    simp only at g
    refine ⟨B, ⟨K + 1, fun k hk => ?_⟩, h2, h3, fun p => ?_⟩
    · obtain ⟨k, rfl⟩ : ∃ q, k = q + 1 := ⟨k - 1, by clear hwn; omega⟩
      simp only [loop_Backs.l0]
      have p1 : (m : Int) < (O.length : Int) := Int.ofNat_lt.mpr hlt
      have p2 : (0 : Int) ≤ (m : Int) := Int.natCast_nonneg m
      have p3 : 0 ≤ rd O (m : Int) := by rw [hb1]; exact Int.natCast_nonneg b
      have p4 : rd O (m : Int) < (next.length : Int) := by rw [hb1]; exact Int.ofNat_lt.mpr hbl
      rw [if_pos p1, if_pos p2, if_pos p1, if_pos p3, if_pos p4]
      exact g k (by clear hwn; omega)
    · rw [h4, hdrop, List.mem_append]
      constructor
      · rintro ((h | h) | ⟨x, hx, h⟩)
        · exact .inl h
        · exact .inr ⟨_, List.mem_cons_self, h⟩
        · exact .inr ⟨x, List.mem_cons_of_mem _ hx, h⟩
      · rintro (h | ⟨x, hx, h⟩)
        · exact .inl (.inl h)
        · rcases List.mem_cons.mp hx with rfl | hx
          · exact .inl (.inr h)
          · exact .inr ⟨x, hx, h⟩
end
/-- What loop.Backs answers. -/
theorem backs_ev (next : List (List Int)) (sm : Small next) (h24 : next.length ≤ 24) (hn : 0 < next.length) : ∃ B, Ev (fun k => loop_Backs.f k next) B ∧ B.length ≤ 1000000 ∧ (B.map pr).Pairwise PdP.L2 ∧ ∀ p, p ∈ B ↔ ∃ u v : Nat, p = ⟨(u : Int), (v : Int)⟩ ∧ Bk (pre next) u v := by
  obtain ⟨T, o, e, K, D, hI, hD, hno, hyes⟩ := idom_some2 next sm hn
  have hTl : (0 :: T).length ≤ next.length := nodup_len _ _ o.nd fun v hv => Rch.lt ((o.mem v).mp hv)
  have hO : ∀ x ∈ (0 :: T).map (fun v : Nat => (v : Int)), ∃ b : Nat, x = (b : Int) ∧ Rch next b := by
    intro x hx
    obtain ⟨b, hb, rfl⟩ := List.mem_map.mp hx
    exact ⟨b, rfl, (o.mem b).mp hb⟩
  obtain ⟨B, ⟨K1, g1⟩, h2, h3, h4⟩ := bl0_ev sm hn o hD (hno 0 hn (.inr rfl)) hyes ((0 :: T).map fun v : Nat => (v : Int)) hO (by rw [List.length_map]; omega) ((0 :: T).map fun v : Nat => (v : Int)).length 0 [] (by omega) (by rw [List.length_map]; simp only [List.length_nil]; omega)
  simp only at g1
  refine ⟨B, ⟨max K K1, fun k hk => ?_⟩, h2, h3, fun p => ?_⟩
  · simp only [loop_Backs.f]
    rw [hI k (by omega)]
    simp only [Option.bind_some]
    rw [e]
    simp only [Option.bind_some]
    exact g1 k (by omega)
  · rw [h4, List.drop_zero]
    have er : ∀ b : Nat, rd_L1 next (b : Int) = next.getD b [] := fun b => by simp [rd_L1]
    constructor
    · rintro (h | ⟨x, hx, h⟩)
      · cases h
      · obtain ⟨b, rfl, hb⟩ := hO x hx
        unfold colR at h
        obtain ⟨c, hc, rfl⟩ := List.mem_map.mp h
        obtain ⟨hc1, hc2⟩ := List.mem_filter.mp hc
        simp only [decide_eq_true_eq] at hc2
        obtain ⟨v, rfl⟩ : ∃ v : Nat, c = (v : Int) := ⟨c.toNat, by omega⟩
        rw [Int.toNat_natCast, Int.toNat_natCast] at hc2
        rw [er] at hc1
        exact ⟨b, v, rfl, ⟨hb, (E_mem next (Rch.lt hb) (by omega)).mpr hc1⟩, hc2.2.2.2⟩
    · rintro ⟨u, v, rfl, ⟨hu, hE⟩, hav⟩
      refine .inr ⟨(u : Int), List.mem_map.mpr ⟨u, (o.mem u).mpr hu, rfl⟩, ?_⟩
      unfold colR
      refine List.mem_map.mpr ⟨(v : Int), List.mem_filter.mpr ⟨by rw [er]; exact hE.1, ?_⟩, rfl⟩
      simp only [decide_eq_true_eq]
      exact ⟨by omega, by have := hE.2; omega, by rw [Int.toNat_natCast, Int.toNat_natCast]; exact ⟨hu, hav⟩⟩
end Go.Proofs.YtfiffhcpgojkhaaDoor.PlbLoopNests
/- loop.Find: the loops of a graph, with the least one around each; plain. No condition but that the graph is small. -/
namespace Go.Proofs.YtfiffhcpgojkhaaDoor.PlbLoopNests
open Go.Proofs.YtfiffhcpgojkhaaDoor Go.Proofs.YtfiffhcpgojkhaaDoor.QLoopNests Go.Proofs.YtfiffhcpgojkhaaDoor.PdB Go.Proofs.YtfiffhcpgojkhaaDoor.PddLoopNests Go.Proofs.YtfiffhcpgojkhaaDoor.DomA Go.Proofs.YtfiffhcpgojkhaaDoor.DomF Go.Proofs.YtfiffhcpgojkhaaDoor.DomP Go.Proofs.YtfiffhcpgojkhaaDoor.DomT Go.Proofs.YtfiffhcpgojkhaaDoor.LoopT Go.RowKit Go.Proofs.YtfiffhcpgojkhaaDoorW.PrintWords Go.Proofs.YtfiffhcpgojkhaaDoorW.PrintLast Go.Proofs.YtfiffhcpgojkhaaDoorW.PrintMore
set_option linter.unusedSimpArgs false
set_option linter.unusedVariables false
/-! ### preds -/
theorem predsF_of (next : List (List Int)) : ∀ (is : List Int) (m : Nat) (T : List Int) (P : List (List Int)) (T' : List Int) (P' : List (List Int)), outerP next is m T P = some (T', P') → predsF next is P = some P' := by
  intro is
  induction is with
  | nil => intro m T P T' P' h; simp only [outerP, Option.some.injEq, Prod.mk.injEq] at h; rw [predsF, h.2]
  | cons i is ih =>
    intro m T P T' P' h
    simp only [outerP] at h
    simp only [predsF]
    split at h
    · rename_i hc
      rw [if_pos hc]
      obtain ⟨P2, h1, h2⟩ := Option.bind_eq_some_iff.mp h
      rw [h1]
      exact ih _ _ _ _ _ h2
    · cases h
theorem innerP_len (n : Nat) (i : Int) : ∀ (cs : List Int) (P P' : List (List Int)), innerP n i cs P = some P' → P'.length = P.length := by
  intro cs
  induction cs with
  | nil => intro P P' h; simp only [innerP, Option.some.injEq] at h; rw [h]
  | cons c cs ih =>
    intro P P' h
    simp only [innerP] at h
    split at h
    · split at h
      · have := ih _ _ h; rw [List.length_set] at this; exact this
      · cases h
    · exact ih _ _ h
theorem predsF_len (next : List (List Int)) : ∀ (is : List Int) (P P' : List (List Int)), predsF next is P = some P' → P'.length = P.length := by
  intro is
  induction is with
  | nil => intro P P' h; simp only [predsF, Option.some.injEq] at h; rw [h]
  | cons i is ih =>
    intro P P' h
    simp only [predsF] at h
    split at h
    · obtain ⟨P2, h1, h2⟩ := Option.bind_eq_some_iff.mp h
      rw [ih _ _ h2, innerP_len _ _ _ _ _ h1]
    · cases h
theorem preds_val (next : List (List Int)) (sm : Small next) (hn : 0 < next.length) : ∃ ord P, dom_Order.f next = some ord ∧ predsF next ord (List.replicate next.length []) = some P ∧ P.length = next.length ∧ (∀ i, i < next.length → ∀ p : Int, p ∈ P.getD i [] ↔ ∃ u : Nat, p = (u : Int) ∧ pre next u i) ∧ ∀ j, (P.getD j []).length < 4611686018427387904 := by
  obtain ⟨T, o, e⟩ := order_some next sm hn
  have hr : ∀ j, (List.replicate next.length ([] : List Int)).getD j [] = [] := by
    intro j
    simp only [List.getD_eq_getElem?_getD, List.getElem?_replicate]
    split <;> rfl
  obtain ⟨T1, P1, h1, tb⟩ := outerP_spec o sm (0 :: T) [] (List.replicate next.length (-1)) (List.replicate next.length []) rfl (by simp) (by simp) (fun v hv => by cases hv) (fun j hj p => by rw [hr]; simp) (fun j => by rw [hr]; simp)
  have h2 := predsF_of next _ _ _ _ _ _ h1
  exact ⟨_, P1, e, h2, by rw [predsF_len _ _ _ _ h2]; simp, tb.pm, tb.pb⟩
/-! ### the least loop -/
/-- One step of the search. -/
def lstep (L : List (List Int)) (x : Int) (but : Int) (k : Nat) (best : Int) : Int := if (k : Int) = but then best else if x ∈ L.getD k [] then (if best < 0 then (k : Int) else if (L.getD k []).length < (L.getD best.toNat []).length then (k : Int) else best) else best
def lrun (L : List (List Int)) (x : Int) (but : Int) : Nat → Nat → Int → Int
 | 0, _, best => best
 | r + 1, k, best => lrun L x but r (k + 1) (lstep L x but k best)
theorem lstep_lt (L : List (List Int)) (x but : Int) (k : Nat) (best : Int) (hb : best < (k : Int)) : lstep L x but k best < ((k + 1 : Nat) : Int) := by
  unfold lstep
  split
  · omega
  · split
    · split
      · omega
      · split <;> omega
    · omega
theorem index_ev (l : List Int) (x : Int) (hl : l.length < 4611686018427387904) : ∀ (r j : Nat), j + r = l.length → ∃ t : Int, Ev (fun k => slices_Index_int_int.l0 k l x (l.length : Int) (j : Int)) t ∧ (t ≥ 0 ↔ x ∈ l.drop j) := by
  intro r
  induction r with
  | zero =>
    intro j hj
    refine ⟨-1, ⟨1, fun k hk => ?_⟩, ?_⟩
    · obtain ⟨k, rfl⟩ : ∃ q, k = q + 1 := ⟨k - 1, by omega⟩
      simp only [slices_Index_int_int.l0]
      rw [if_neg (by omega)]
    · rw [List.drop_eq_nil_of_le (by omega)]; simp
  | succ r ih =>
    intro j hj
    have hlt : j < l.length := by omega
    have hd := PdC.drop_rd l j hlt
    have hwn := PdC.wnext j (by omega)
    have p1 : (j : Int) < (l.length : Int) := Int.ofNat_lt.mpr hlt
    have p2 : (0 : Int) ≤ (j : Int) := Int.natCast_nonneg j
    by_cases e : x = rd l (j : Int)
    · refine ⟨(j : Int), ⟨1, fun k hk => ?_⟩, ?_⟩
      · obtain ⟨k, rfl⟩ : ∃ q, k = q + 1 := ⟨k - 1, by clear hwn; omega⟩
        simp only [slices_Index_int_int.l0]
        rw [if_pos p1, if_pos p2, if_pos p1, if_pos e]
      · rw [hd, e]; simp
    · obtain ⟨t, ⟨K, g⟩, ht⟩ := ih (j + 1) (by omega)
      simp only at g
      refine ⟨t, ⟨K + 1, fun k hk => ?_⟩, ?_⟩
      · obtain ⟨k, rfl⟩ : ∃ q, k = q + 1 := ⟨k - 1, by clear hwn; omega⟩
        simp only [slices_Index_int_int.l0]
        rw [if_pos p1, if_pos p2, if_pos p1, if_neg e, hwn]
        exact g k (by clear hwn; omega)
      · rw [ht, hd, List.mem_cons]
        exact ⟨fun h => .inr h, fun h => h.resolve_left e⟩
theorem contains_ev (l : List Int) (x : Int) (hl : l.length < 4611686018427387904) : Ev (fun k => slices_Contains_int_int.f k l x) (decide (x ∈ l)) := by
  obtain ⟨t, ⟨K, g⟩, ht⟩ := index_ev l x hl l.length 0 (by omega)
  simp only at g
  refine ⟨K, fun k hk => ?_⟩
  simp only [slices_Contains_int_int.f, slices_Index_int_int.f]
  have g' := g k hk
  rw [show ((0 : Nat) : Int) = 0 from rfl] at g'
  rw [g']
  simp only [Option.bind_some]
  congr 1
  rw [decide_eq_decide, ht, List.drop_zero]
theorem f1_at (l : List S35) (k : Nat) : (rd_T35 l (k : Int)).f1 = (l.map fun y => y.f1).getD k [] := by
  simp only [rd_T35, Int.toNat_natCast, List.getD_eq_getElem?_getD, List.getElem?_map]
  cases l[k]? <;> rfl
theorem least_ev (l : List S35) (x : Int) (but : Int) (hl : l.length ≤ 1000) (hs : ∀ k, ((l.map fun y => y.f1).getD k []).length ≤ 1000) : ∀ (r j : Nat) (best : Int), j + r = l.length → -1 ≤ best → best < (j : Int) →
    Ev (fun k => loop_least.l0 k l x but best l (l.length : Int) (j : Int)) (lrun (l.map fun y => y.f1) x but r j best) := by
  intro r
  induction r with
  | zero =>
    intro j best hj h0 h1
    refine ⟨1, fun k hk => ?_⟩
    obtain ⟨k, rfl⟩ : ∃ q, k = q + 1 := ⟨k - 1, by omega⟩
    simp only [loop_least.l0]
    rw [if_neg (by omega)]
    rfl
  | succ r ih =>
    intro j best hj h0 h1
    have hlt : j < l.length := by omega
    have hwn := PdC.wnext j (by omega)
    have p1 : (j : Int) < (l.length : Int) := Int.ofNat_lt.mpr hlt
    have p2 : (0 : Int) ≤ (j : Int) := Int.natCast_nonneg j
    have hlow : -1 ≤ lstep (l.map fun y => y.f1) x but j best := by
      unfold lstep
      split
      · exact h0
      · split
        · split
          · omega
          · split <;> omega
        · exact h0
    obtain ⟨K, g⟩ := ih (j + 1) (lstep (l.map fun y => y.f1) x but j best) (by omega) hlow (lstep_lt _ _ _ _ _ h1)
    simp only at g
    have hsj := hs j
    obtain ⟨K2, g2⟩ := contains_ev ((l.map fun y => y.f1).getD j []) x (by omega)
    simp only at g2
    have hb3 : best < (l.length : Int) := by omega
    refine ⟨max K K2 + 1, fun k hk => ?_⟩
    obtain ⟨k, rfl⟩ : ∃ q, k = q + 1 := ⟨k - 1, by clear hwn; omega⟩
    have gk := g k (by clear hwn; omega)
    have gk2 := g2 k (by clear hwn; omega)
    simp only [loop_least.l0, lrun]
    rw [if_pos p1, if_pos p2, if_pos p1, hwn]
    unfold lstep at gk ⊢
    by_cases e : (j : Int) = but
    · rw [if_pos e] at gk ⊢
      rw [if_pos e]; exact gk
    · rw [if_neg e] at gk ⊢
      rw [if_neg e, f1_at, gk2]
      simp only [Option.bind_some]
      by_cases hm : x ∈ (l.map fun y => y.f1).getD j []
      · rw [if_pos hm] at gk ⊢
        rw [if_pos (by simpa using hm)]
        by_cases hneg : best < 0
        · rw [if_pos hneg] at gk ⊢
          rw [if_pos hneg]; exact gk
        · rw [if_neg hneg] at gk ⊢
          obtain ⟨b, rfl⟩ : ∃ b : Nat, best = (b : Int) := ⟨best.toNat, by clear hwn; omega⟩
          rw [if_neg hneg, if_pos (Int.natCast_nonneg b), if_pos hb3, f1_at]
          rw [Int.toNat_natCast] at gk ⊢
          by_cases hc : ((l.map fun y => y.f1).getD j []).length < ((l.map fun y => y.f1).getD b []).length
          · rw [if_pos hc] at gk ⊢
            rw [if_pos (Int.ofNat_lt.mpr hc)]; exact gk
          · rw [if_neg hc] at gk ⊢
            rw [if_neg (fun h => hc (Int.ofNat_lt.mp h))]; exact gk
      · rw [if_neg hm] at gk ⊢
        rw [if_neg (by simpa using hm)]; exact gk
/-- The least of some loops, but one, that has a place. -/
def leastS (L : List (List Int)) (x : Int) (but : Int) : Int := lrun L x but L.length 0 (-1)
theorem least_f_ev (l : List S35) (x : Int) (but : Int) (hl : l.length ≤ 1000) (hs : ∀ k, ((l.map fun y => y.f1).getD k []).length ≤ 1000) : Ev (fun k => loop_least.f k l x but) (leastS (l.map fun y => y.f1) x but) := by
  obtain ⟨K, g⟩ := least_ev l x but hl hs l.length 0 (-1) (by omega) (by omega) (by omega)
  simp only at g
  refine ⟨K, fun k hk => ?_⟩
  simp only [loop_least.f, leastS, List.length_map]
  exact g k hk
theorem outers_ev : ∀ (r i : Nat) (out : List S35), i + r = out.length → out.length ≤ 1000 → (∀ k, ((out.map fun y => y.f1).getD k []).length ≤ 1000) → ∃ o2, Ev (fun k => outersF k r i out) o2 ∧ (o2.map fun y => y.f0) = (out.map fun y => y.f0) ∧ (o2.map fun y => y.f1) = (out.map fun y => y.f1) ∧
    (∀ j, j < i → o2.getD j z35 = out.getD j z35) ∧ ∀ j, i ≤ j → j < out.length → (o2.getD j z35).f2 = leastS (out.map fun y => y.f1) (out.getD j z35).f0 (j : Int) := by
  intro r
  induction r with
  | zero => intro i out hi _ _; exact ⟨out, ⟨0, fun k _ => rfl⟩, rfl, rfl, fun _ _ => rfl, fun j h1 h2 => by omega⟩
  | succ r ih =>
    intro i out hi hl hs
    have hil : i < out.length := by omega
    obtain ⟨K1, g1⟩ := least_f_ev out (out.getD i z35).f0 (i : Int) hl hs
    simp only at g1
    generalize hm : leastS (out.map fun y => y.f1) (out.getD i z35).f0 (i : Int) = mm at g1
    have hget : out.getD i z35 = out[i] := by simp [List.getD_eq_getElem?_getD, hil]
    have e0 : ((out.set i { out.getD i z35 with f2 := mm }).map fun y => y.f0) = (out.map fun y => y.f0) := by
      apply List.ext_getElem (by simp)
      intro j h1 h2
      simp only [List.getElem_map, List.getElem_set]
      split
      · rename_i e; subst e; rw [hget]
      · rfl
    have e1 : ((out.set i { out.getD i z35 with f2 := mm }).map fun y => y.f1) = (out.map fun y => y.f1) := by
      apply List.ext_getElem (by simp)
      intro j h1 h2
      simp only [List.getElem_map, List.getElem_set]
      split
      · rename_i e; subst e; rw [hget]
      · rfl
    obtain ⟨o2, ⟨K2, g2⟩, h1, h2, h3, h4⟩ := ih (i + 1) (out.set i { out.getD i z35 with f2 := mm }) (by rw [List.length_set]; omega) (by rw [List.length_set]; exact hl) (by rw [e1]; exact hs)
    simp only at g2
    have hset : ∀ j, (out.set i { out.getD i z35 with f2 := mm }).getD j z35 = if j = i then { out.getD i z35 with f2 := mm } else out.getD j z35 := by
      intro j
      by_cases e : j = i
      · subst e; simp [List.getD_eq_getElem?_getD, hil]
      · rw [if_neg e]; simp [List.getD_eq_getElem?_getD, List.getElem?_set, Ne.symm e]
    refine ⟨o2, ⟨max K1 K2, fun k hk => ?_⟩, by rw [h1, e0], by rw [h2, e1], fun j hj => ?_, fun j hj hjl => ?_⟩
    · simp only [outersF]
      rw [g1 k (by omega)]
      simp only [Option.bind_some]
      exact g2 k (by omega)
    · rw [h3 j (by omega), hset, if_neg (by omega)]
    · by_cases e : j = i
      · subst e
        rw [h3 j (by omega), hset, if_pos rfl, hm]
      · have := h4 j (by omega) (by rw [List.length_set]; exact hjl)
        rw [this, e1, hset, if_neg e]
end Go.Proofs.YtfiffhcpgojkhaaDoor.PlbLoopNests
/- loop.Find's answer; the document's Body; awake; plain. No condition but that the graph is small. -/
namespace Go.Proofs.YtfiffhcpgojkhaaDoor.PlbLoopNests
open Go.Proofs.YtfiffhcpgojkhaaDoor Go.Proofs.YtfiffhcpgojkhaaDoor.QLoopNests Go.Proofs.YtfiffhcpgojkhaaDoor.PdB Go.Proofs.YtfiffhcpgojkhaaDoor.PddLoopNests Go.Proofs.YtfiffhcpgojkhaaDoor.PdrLoopNests Go.Proofs.YtfiffhcpgojkhaaDoor.DomA Go.Proofs.YtfiffhcpgojkhaaDoor.DomF Go.Proofs.YtfiffhcpgojkhaaDoor.DomP Go.Proofs.YtfiffhcpgojkhaaDoor.DomT Go.Proofs.YtfiffhcpgojkhaaDoor.LoopT Go.RowKit Go.Proofs.YtfiffhcpgojkhaaDoorW.PrintWords Go.Proofs.YtfiffhcpgojkhaaDoorW.PrintLast Go.Proofs.YtfiffhcpgojkhaaDoorW.PrintMore
set_option linter.unusedSimpArgs false
set_option linter.unusedVariables false
/-- A loop's places. -/
def Bd (next : List (List Int)) (h : Nat) (r : List Int) : Prop := r.length ≤ 24 ∧ r.Pairwise (· < ·) ∧ ∀ x : Int, x ∈ r ↔ ∃ a : Nat, x = (a : Int) ∧ a < next.length ∧ Lb (Rch next) (pre next) h a
def Hd (next : List (List Int)) (h : Nat) : Prop := ∃ u, Bk (pre next) u h
open Classical in
noncomputable def heads (next : List (List Int)) : List Int := ((List.range next.length).filter fun h => decide (Hd next h)).map fun h : Nat => (h : Int)
theorem Hd.lt {next : List (List Int)} {h : Nat} (hh : Hd next h) : h < next.length := by
  obtain ⟨u, hu⟩ := hh
  exact hu.1.2.2
theorem loops_ev {next P : List (List Int)} (h24 : next.length ≤ 24) (hP : P.length = next.length) (rows : ∀ i, i < next.length → ∀ p : Int, p ∈ P.getD i [] ↔ ∃ u : Nat, p = (u : Int) ∧ pre next u i) (pb : ∀ j, (P.getD j []).length < 4611686018427387904)
    (B : List S29) (hBl : B.length ≤ 1000000) (hB : ∀ p, p ∈ B ↔ ∃ u v : Nat, p = ⟨(u : Int), (v : Int)⟩ ∧ Bk (pre next) u v) :
    ∀ (hs : List Int) (out : List S35), (∀ x ∈ hs, ∃ h : Nat, x = (h : Int) ∧ Hd next h) → out.length + hs.length ≤ 1000 →
      ∃ new : List S35, Ev (fun k => loopsF k P (grpF B) hs out) (out ++ new) ∧ (new.map fun y => y.f0) = hs ∧ ∀ y ∈ new, ∃ h : Nat, y.f0 = (h : Int) ∧ Hd next h ∧ Bd next h y.f1 := by
  intro hs
  induction hs with
  | nil => intro out _ _; exact ⟨[], ⟨0, fun k _ => by simp [loopsF]⟩, rfl, fun y hy => by cases hy⟩
  | cons x hs ih =>
    intro out hh hl
    obtain ⟨h, rfl, hd⟩ := hh x (by simp)
    simp only [List.length_cons] at hl
    have hF : ∀ p : Int, p ∈ grpF B (h : Int) ↔ ∃ u : Nat, p = (u : Int) ∧ Bk (pre next) u h := by
      intro p
      unfold grpF
      constructor
      · intro hp
        obtain ⟨b, hb, rfl⟩ := List.mem_map.mp hp
        obtain ⟨hb1, hb2⟩ := List.mem_filter.mp hb
        obtain ⟨u, v, rfl, hk⟩ := (hB b).mp hb1
        simp only [beq_iff_eq] at hb2
        obtain rfl : v = h := by omega
        exact ⟨u, rfl, hk⟩
      · rintro ⟨u, rfl, hk⟩
        exact List.mem_map.mpr ⟨⟨(u : Int), (h : Int)⟩, List.mem_filter.mpr ⟨(hB _).mpr ⟨u, h, rfl, hk⟩, by simp⟩, rfl⟩
    have hFl : (grpF B (h : Int)).length < 4611686018427387904 := by
      unfold grpF
      rw [List.length_map]
      have := List.length_filter_le (fun b : S29 => b.f1 == (h : Int)) B
      omega
    obtain ⟨r, ⟨K1, g1⟩, r1, r2, r3⟩ := body_ev h24 hP rows pb h hd.lt (grpF B (h : Int)) hF hFl
    obtain ⟨new, ⟨K2, g2⟩, n1, n2⟩ := ih (out ++ [⟨(h : Int), r, -1⟩]) (fun y hy => hh y (by simp [hy])) (by rw [List.length_append]; simp only [List.length_cons, List.length_nil]; omega)
    simp only at g1 g2
    refine ⟨⟨(h : Int), r, -1⟩ :: new, ⟨max K1 K2, fun k hk => ?_⟩, by rw [List.map_cons, n1], fun y hy => ?_⟩
    · simp only [loopsF]
      rw [g1 k (by omega)]
      simp only [Option.bind_some]
      rw [if_pos (by omega), g2 k (by omega)]
      simp
    · rcases List.mem_cons.mp hy with rfl | hy
      · exact ⟨h, rfl, hd, r1, r2, r3⟩
      · exact n2 y hy
/-- What loop.Find answers. -/
theorem find_ev (next : List (List Int)) (sm : Small next) (h24 : next.length ≤ 24) (hn : 0 < next.length) : ∃ out, Ev (fun k => loop_Find.f k next) out ∧ (out.map fun y => y.f0) = heads next ∧ out.length ≤ 24 ∧ (∀ y ∈ out, ∃ h : Nat, y.f0 = (h : Int) ∧ Hd next h ∧ Bd next h y.f1) ∧
    ∀ i, i < out.length → (out.getD i z35).f2 = leastS (out.map fun y => y.f1) (out.getD i z35).f0 (i : Int) := by
  obtain ⟨ord, P, e1, e2, hP, rows, pb⟩ := preds_val next sm hn
  obtain ⟨B, ⟨K1, g1⟩, hBl, _, hB⟩ := backs_ev next sm h24 hn
  simp only at g1
  have ehd : PdC.sc (headsF B) = heads next := by
    classical
    refine PdC.rise_eq _ _ (PdC.sc_rise _) (PdC.range_rise _ _) fun x => ?_
    rw [PdC.sc_mem]
    unfold headsF heads
    simp only [List.mem_map, List.mem_filter, List.mem_range, decide_eq_true_eq]
    constructor
    · rintro ⟨b, hb, rfl⟩
      obtain ⟨u, v, rfl, hk⟩ := (hB b).mp hb
      exact ⟨v, ⟨hk.1.2.2, u, hk⟩, rfl⟩
    · rintro ⟨v, ⟨_, u, hk⟩, rfl⟩
      exact ⟨⟨(u : Int), (v : Int)⟩, (hB _).mpr ⟨u, v, rfl, hk⟩, rfl⟩
  have hhl : (heads next).length ≤ 24 := by
    unfold heads
    rw [List.length_map]
    exact Nat.le_trans (List.length_filter_le _ _) (by simpa using h24)
  have hin : ∀ x ∈ heads next, ∃ h : Nat, x = (h : Int) ∧ Hd next h := by
    classical
    intro x hx
    unfold heads at hx
    simp only [List.mem_map, List.mem_filter, List.mem_range, decide_eq_true_eq] at hx
    obtain ⟨h, ⟨_, hh⟩, rfl⟩ := hx
    exact ⟨h, rfl, hh⟩
  obtain ⟨new, ⟨K2, g2⟩, n1, n2⟩ := loops_ev h24 hP rows pb B hBl hB (heads next) [] hin (by simp only [List.length_nil]; omega)
  simp only [List.nil_append] at g2
  have hnl : new.length ≤ 24 := by
    have := congrArg List.length n1
    rw [List.length_map] at this
    omega
  have hs : ∀ k, ((new.map fun y => y.f1).getD k []).length ≤ 1000 := by
    intro k
    by_cases c : k < new.length
    · have e : (new.map fun y => y.f1).getD k [] = new[k].f1 := by simp [List.getD_eq_getElem?_getD, c]
      obtain ⟨h, _, _, hb⟩ := n2 new[k] (List.getElem_mem c)
      rw [e]; have := hb.1; omega
    · have e : (new.map fun y => y.f1).getD k [] = [] := by simp [List.getD_eq_getElem?_getD, c]
      rw [e]; simp
  obtain ⟨o2, ⟨K3, g3⟩, o0, o1, _, o4⟩ := outers_ev new.length 0 new (by omega) (by omega) hs
  simp only at g3
  have ol : o2.length = new.length := by
    have := congrArg List.length o0
    simpa using this
  refine ⟨o2, ⟨max K1 (max K2 K3), fun k hk => ?_⟩, by rw [o0, n1], by omega, fun y hy => ?_, fun i hi => ?_⟩
  · simp only [loop_Find.f]
    rw [if_pos (by omega), e1]
    simp only [Option.bind_some]
    rw [e2]
    simp only [Option.bind_some]
    rw [g1 k (by omega)]
    simp only [Option.bind_some]
    have hin64 : (B.all fun b => in64 b.f0 && in64 b.f1) = true := by
      rw [List.all_eq_true]
      intro b hb
      obtain ⟨u, v, rfl, hk⟩ := (hB b).mp hb
      have hu := Rch.lt hk.1.1
      have hv := hk.1.2.2
      simp only [in64, Bool.and_eq_true, decide_eq_true_eq]
      omega
    rw [if_pos ⟨by omega, hin64⟩]
    have hhl2 : (headsF B).length < 4611686018427387904 := by rw [headsF_len]; omega
    have s1 : slices_Sort_int_int.f (headsF B) = some ((headsF B).mergeSort fun x y => decide (x ≤ y)) := by unfold slices_Sort_int_int.f; rw [if_pos hhl2]
    have s2 : slices_Compact_int_int.f ((headsF B).mergeSort fun x y => decide (x ≤ y)) = some (heads next) := by
      unfold slices_Compact_int_int.f
      rw [if_pos (by rw [List.length_mergeSort]; exact hhl2), ← ehd]
      rfl
    rw [s1]
    simp only [Option.bind_some]
    rw [s2]
    simp only [Option.bind_some]
    have hall : ((heads next).all in64) = true := by
      rw [List.all_eq_true]
      intro x hx
      obtain ⟨h, rfl, hh⟩ := hin x hx
      have := hh.lt
      simp only [in64, Bool.and_eq_true, decide_eq_true_eq]
      omega
    rw [if_pos ⟨hall, by omega⟩, g2 k (by omega)]
    simp only [Option.bind_some]
    rw [if_pos (by omega)]
    exact g3 k (by omega)
  · obtain ⟨j, hj, rfl⟩ := List.getElem_of_mem hy
    have hj2 : j < new.length := by omega
    have a0 : o2[j].f0 = new[j].f0 := by
      have := congrArg (fun l => l[j]?) o0
      simpa [hj, hj2] using this
    have a1 : o2[j].f1 = new[j].f1 := by
      have := congrArg (fun l => l[j]?) o1
      simpa [hj, hj2] using this
    obtain ⟨h, b1, b2, b3⟩ := n2 new[j] (List.getElem_mem hj2)
    exact ⟨h, by rw [a0, b1], b2, by rw [a1]; exact b3⟩
  · have hj2 : i < new.length := by omega
    have a0 : (o2.getD i z35).f0 = (new.getD i z35).f0 := by
      have := congrArg (fun l => l[i]?) o0
      simpa [hi, hj2, List.getD_eq_getElem?_getD] using this
    rw [o4 i (by omega) hj2, o1, a0]
end Go.Proofs.YtfiffhcpgojkhaaDoor.PlbLoopNests
/- The program answers at all: loop.Find at one graph. No condition. -/
namespace Go.Proofs.YtfiffhcpgojkhaaDoor.PlbLoopNests
open Go.Proofs.YtfiffhcpgojkhaaDoor Go.Proofs.YtfiffhcpgojkhaaDoor.QLoopNests Go.Proofs.YtfiffhcpgojkhaaDoor.PdB Go.Proofs.YtfiffhcpgojkhaaDoor.PddLoopNests Go.Proofs.YtfiffhcpgojkhaaDoor.PdrLoopNests Go.Proofs.YtfiffhcpgojkhaaDoor.DomA Go.Proofs.YtfiffhcpgojkhaaDoor.DomF Go.Proofs.YtfiffhcpgojkhaaDoor.DomP Go.Proofs.YtfiffhcpgojkhaaDoor.DomT Go.Proofs.YtfiffhcpgojkhaaDoor.LoopT Go.RowKit Go.Proofs.YtfiffhcpgojkhaaDoorW.PrintWords Go.Proofs.YtfiffhcpgojkhaaDoorW.PrintLast Go.Proofs.YtfiffhcpgojkhaaDoorW.PrintMore
set_option linter.unusedSimpArgs false
set_option linter.unusedVariables false
abbrev G0 : List (List Int) := [[1], [2], [1, 3], []]
theorem b0 : dom_Idom.f 40 G0 = some [-1, 0, 1, 2] := by decide +kernel
theorem b1 : dom_Order.f G0 = some [0, 1, 2, 3] := by decide +kernel
theorem b2 : loop_Backs.l0 40 G0 [-1, 0, 1, 2] ([] : List (S29)) [0, 1, 2, 3] (([0, 1, 2, 3] : List Int).length : Int) 0 = (slices_SortFunc_2_int_2_int.f [⟨2, 1⟩]).bind fun t109 => (slices_Compact_2_int_2_int.f t109).bind fun t110 => some t110 := by kernel_rfl
theorem b3 : slices_SortFunc_2_int_2_int.f [⟨2, 1⟩] = some [⟨2, 1⟩] := by
  unfold slices_SortFunc_2_int_2_int.f sortP
  rw [if_pos (by decide)]
  simp only [List.map_cons, List.map_nil, List.mergeSort_singleton]
  rfl
theorem b4 : slices_Compact_2_int_2_int.f [⟨2, 1⟩] = some [⟨2, 1⟩] := by kernel_rfl
theorem bindd {α β : Type} {a : Option α} {x : α} {f : α → Option β} {r : Option β} (h : a = some x) (h2 : f x = r) : a.bind f = r := by
  rw [h]
  exact h2
theorem b23 : loop_Backs.l0 40 G0 [-1, 0, 1, 2] ([] : List (S29)) [0, 1, 2, 3] (([0, 1, 2, 3] : List Int).length : Int) 0 = some [⟨2, 1⟩] := b2.trans (bindd b3 (bindd b4 rfl))
theorem b5 : loop_Backs.f 40 G0 = some [⟨2, 1⟩] := bindd b0 (bindd b1 b23)
theorem b6 : slices_Sort_int_int.f [1] = some [1] := by
  unfold slices_Sort_int_int.f
  rw [if_pos (by decide), List.mergeSort_singleton]
theorem b7 : slices_Compact_int_int.f [1] = some [1] := by decide +kernel
theorem b8 : predsF G0 [0, 1, 2, 3] [[], [], [], []] = some [[], [0, 2], [1], [2]] := by decide +kernel
theorem b9 : loopsF 40 [[], [0, 2], [1], [2]] (grpF [⟨2, 1⟩]) [1] [] = some [⟨1, [1, 2], -1⟩] := by kernel_rfl
theorem b10 : outersF 40 1 0 [⟨1, [1, 2], -1⟩] = some [⟨1, [1, 2], -1⟩] := by kernel_rfl
theorem b11 : loop_Find.f 40 G0 = some [⟨1, [1, 2], -1⟩] := by
  simp only [loop_Find.f]
  rw [if_pos (by decide), b1]
  simp only [Option.bind_some]
  have e : List.replicate G0.length ([] : List Int) = [[], [], [], []] := rfl
  rw [e, b8]
  simp only [Option.bind_some]
  rw [b5]
  simp only [Option.bind_some]
  rw [if_pos (by decide +kernel)]
  have e2 : headsF [(⟨2, 1⟩ : S29)] = [1] := rfl
  rw [e2, b6]
  simp only [Option.bind_some]
  rw [b7]
  simp only [Option.bind_some]
  rw [if_pos (by decide +kernel), b9]
  simp only [Option.bind_some]
  rw [if_pos (by decide)]
  exact b10
theorem awake_ev : Ev (fun k => ladderbacklaw33_awake.f k) true := by
  obtain ⟨K, h⟩ := Ev.of (g := fun k => loop_Find.f k G0) (fun k => loop_Find.mono _ k) b11
  simp only at h
  refine ⟨K, fun k hk => ?_⟩
  simp only [ladderbacklaw33_awake.f]
  rw [h k hk]
  rfl
end Go.Proofs.YtfiffhcpgojkhaaDoor.PlbLoopNests
/- loop.Backs and loop.Find of any small graph, the empty one too; plain. No condition but that the graph is small. -/
namespace Go.Proofs.YtfiffhcpgojkhaaDoor.PlbLoopNests
open Go.Proofs.YtfiffhcpgojkhaaDoor Go.Proofs.YtfiffhcpgojkhaaDoor.QLoopNests Go.Proofs.YtfiffhcpgojkhaaDoor.PdB Go.Proofs.YtfiffhcpgojkhaaDoor.PddLoopNests Go.Proofs.YtfiffhcpgojkhaaDoor.PdrLoopNests Go.Proofs.YtfiffhcpgojkhaaDoor.DomA Go.Proofs.YtfiffhcpgojkhaaDoor.DomF Go.Proofs.YtfiffhcpgojkhaaDoor.DomP Go.Proofs.YtfiffhcpgojkhaaDoor.DomT Go.Proofs.YtfiffhcpgojkhaaDoor.LoopT Go.RowKit Go.Proofs.YtfiffhcpgojkhaaDoorW.PrintWords Go.Proofs.YtfiffhcpgojkhaaDoorW.PrintLast Go.Proofs.YtfiffhcpgojkhaaDoorW.PrintMore
set_option linter.unusedSimpArgs false
set_option linter.unusedVariables false
theorem c0 : dom_Idom.f 9 [] = some [] := by decide +kernel
theorem c1 : dom_Order.f [] = some [] := by decide +kernel
theorem c2 : loop_Backs.l0 9 [] [] ([] : List (S29)) [] (([] : List Int).length : Int) 0 = (slices_SortFunc_2_int_2_int.f []).bind fun t109 => (slices_Compact_2_int_2_int.f t109).bind fun t110 => some t110 := by kernel_rfl
theorem c3 : slices_SortFunc_2_int_2_int.f [] = some [] := by
  unfold slices_SortFunc_2_int_2_int.f sortP
  rw [if_pos (by decide)]
  simp only [List.map_nil, List.mergeSort_nil]
theorem c4 : slices_Compact_2_int_2_int.f [] = some [] := by kernel_rfl
theorem c5 : loop_Backs.f 9 [] = some [] := bindd c0 (bindd c1 (c2.trans (bindd c3 (bindd c4 rfl))))
theorem c6 : slices_Sort_int_int.f [] = some [] := by
  unfold slices_Sort_int_int.f
  rw [if_pos (by decide), List.mergeSort_nil]
theorem c7 : slices_Compact_int_int.f [] = some [] := by decide +kernel
theorem c11 : loop_Find.f 9 [] = some [] := by
  simp only [loop_Find.f]
  rw [if_pos (by decide), c1]
  simp only [Option.bind_some]
  have e : predsF [] [] (List.replicate ([] : List (List Int)).length ([] : List Int)) = some [] := rfl
  rw [e]
  simp only [Option.bind_some]
  rw [c5]
  simp only [Option.bind_some]
  rw [if_pos (by decide +kernel)]
  have e2 : headsF ([] : List (S29)) = [] := rfl
  rw [e2, c6]
  simp only [Option.bind_some]
  rw [c7]
  simp only [Option.bind_some]
  rw [if_pos (by decide +kernel)]
  simp only [loopsF, Option.bind_some]
  rw [if_pos (by decide)]
  rfl
theorem backs_all (next : List (List Int)) (sm : Small next) (h24 : next.length ≤ 24) : ∃ B, Ev (fun k => loop_Backs.f k next) B ∧ B.length ≤ 1000000 ∧ (B.map pr).Pairwise PdP.L2 ∧ ∀ p, p ∈ B ↔ ∃ u v : Nat, p = ⟨(u : Int), (v : Int)⟩ ∧ Bk (pre next) u v := by
  rcases Nat.eq_zero_or_pos next.length with h0 | hn
  · obtain rfl : next = [] := List.eq_nil_of_length_eq_zero h0
    refine ⟨[], Ev.of (g := fun k => loop_Backs.f k []) (fun k => loop_Backs.mono _ k) c5, by simp, by simp, fun p => ?_⟩
    constructor
    · intro h; cases h
    · rintro ⟨u, v, _, hk⟩; have := Rch.lt hk.1.1; simp at this
  · exact backs_ev next sm h24 hn
theorem find_all (next : List (List Int)) (sm : Small next) (h24 : next.length ≤ 24) : ∃ out, Ev (fun k => loop_Find.f k next) out ∧ (out.map fun y => y.f0) = heads next ∧ out.length ≤ 24 ∧ (∀ y ∈ out, ∃ h : Nat, y.f0 = (h : Int) ∧ Hd next h ∧ Bd next h y.f1) ∧
    ∀ i, i < out.length → (out.getD i z35).f2 = leastS (out.map fun y => y.f1) (out.getD i z35).f0 (i : Int) := by
  rcases Nat.eq_zero_or_pos next.length with h0 | hn
  · obtain rfl : next = [] := List.eq_nil_of_length_eq_zero h0
    exact ⟨[], Ev.of (g := fun k => loop_Find.f k []) (fun k => loop_Find.mono _ k) c11, rfl, by simp, (fun y hy => by cases hy), (fun i hi => by simp at hi)⟩
  · exact find_ev next sm h24 hn
end Go.Proofs.YtfiffhcpgojkhaaDoor.PlbLoopNests
