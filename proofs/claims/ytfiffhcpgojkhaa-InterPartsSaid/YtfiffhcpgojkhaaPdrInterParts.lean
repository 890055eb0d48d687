/- Which places the document's Reach tells: just those to which one comes; plain. No condition. -/
import Derived.Test.YtfiffhcpgojkhaaQInterPartsx
import Derived.Test.YtfiffhcpgojkhaaPdB
namespace Go.Proofs.Ytfiffhcpgojkhaa.PdrInterParts
open Go.Proofs.Ytfiffhcpgojkhaa Go.Proofs.Ytfiffhcpgojkhaa.QInterParts Go.Proofs.Ytfiffhcpgojkhaa.PdB Go.Proofs.Ytfiffhcpgojkhaa.DomA Go.Proofs.Ytfiffhcpgojkhaa.DomF Go.RowKit Go.Proofs.YtfiffhcpgojkhaaW.PrintWords Go.Proofs.YtfiffhcpgojkhaaW.PrintLast Go.Proofs.YtfiffhcpgojkhaaW.PrintMore
set_option linter.unusedSimpArgs false
set_option linter.unusedVariables false
/-- One comes from f to a place without w. -/
inductive Rw (next : List (List Int)) (f w : Int) : Nat → Prop
  | root {v : Nat} : (v : Int) = f → v < next.length → f ≠ w → Rw next f w v
  | step {u v : Nat} : Rw next f w u → E next u v → (v : Int) ≠ w → Rw next f w v
theorem Rw.lt {next : List (List Int)} {f w : Int} {v : Nat} (h : Rw next f w v) : v < next.length := by
  cases h with
  | root _ h _ => exact h
  | step _ h _ => exact h.2
theorem cnt_lt {M N : List Bool} (hl : M.length = N.length) (h : ∀ v, M.getD v false = true → N.getD v false = true) : cnt N ≤ cnt M ∧ ((∃ v, N.getD v false = true ∧ M.getD v false = false) → cnt N < cnt M) := by
  induction M generalizing N with
  | nil => cases N with
    | nil => exact ⟨Nat.le_refl _, fun ⟨v, h, _⟩ => by simp at h⟩
    | cons => simp at hl
  | cons b M ih =>
    cases N with
    | nil => simp at hl
    | cons c N =>
      obtain ⟨h1, h2⟩ := ih (N := N) (by simpa using hl) (fun v hv => by simpa using h (v + 1) (by simpa using hv))
      have h0 := h 0
      refine ⟨?_, ?_⟩
      · cases b <;> cases c <;> simp [cnt] at h1 h0 ⊢ <;> omega
      · rintro ⟨v, hv, hw⟩
        cases v with
        | zero => cases b <;> cases c <;> simp [cnt] at h1 hv hw ⊢; omega
        | succ v =>
          have h3 := h2 ⟨v, by simpa using hv, by simpa using hw⟩
          cases b <;> cases c <;> simp [cnt] at h3 h0 ⊢ <;> omega
theorem getD_set_t (M : List Bool) (i v : Nat) (hi : i < M.length) : (M.set i true).getD v false = true ↔ M.getD v false = true ∨ v = i := by
  by_cases h : v = i
  · subst h; simp [List.getD_eq_getElem?_getD, hi]
  · simp [List.getD_eq_getElem?_getD, List.getElem?_set, Ne.symm h, h]
theorem getD_lt {M : List Bool} {v : Nat} (h : M.getD v false = true) : v < M.length := by
  by_cases hl : v < M.length
  · exact hl
  · simp [List.getD_eq_getElem?_getD, hl] at h
section
variable (next : List (List Int)) (f w : Int) (hn : next.length < 4611686018427387904) (hbig : ∀ i, (next.getD i []).length < 4611686018427387904)
def Sound (M : List Bool) : Prop := ∀ v, M.getD v false = true → Rw next f w v
include hn hbig in
theorem l2_ev (i : Nat) (hi : i < next.length) : ∀ (r k0 : Nat) (M : List Bool), k0 + r = (next.getD i []).length → M.length = next.length → Sound next f w M →
    ∃ M' : List Bool, M'.length = next.length ∧ Sound next f w M' ∧ (∀ v, M.getD v false = true → M'.getD v false = true) ∧ (M.getD i false = true → ∀ j, k0 ≤ j → j < (next.getD i []).length → ∀ v : Nat, rd (next.getD i []) (j : Int) = (v : Int) → v < next.length → (v : Int) ≠ w → M'.getD v false = true) ∧
      ∀ t R, Ev (fun k => ladderbackref31_Reach.l1 k next w M' t ((i + 1 : Nat) : Int)) R → Ev (fun k => ladderbackref31_Reach.l2 k next w M t (i : Int) (k0 : Int)) R := by
  intro r
  induction r with
  | zero =>
    intro k0 M hk hM hs
    refine ⟨M, hM, hs, fun v h => h, fun _ j h1 h2 => by omega, fun t R hR => ?_⟩
    obtain ⟨K, g⟩ := hR
    simp only at g
    refine ⟨K + 2, fun k hk2 => ?_⟩
    obtain ⟨k, rfl⟩ : ∃ m, k = m + 2 := ⟨k - 2, by omega⟩
    simp only [ladderbackref31_Reach.l2, ladderbackref31_Reach.j4]
    rw [if_pos (by omega), if_pos (by omega), if_neg (by simp only [rd_L1, Int.toNat_natCast]; omega), if_neg (by decide), wnext i (by omega)]
    exact g k (by omega)
  | succ r ih =>
    intro k0 M hk hM hs
    cases hMi : M.getD i false with
    | false =>
      refine ⟨M, hM, hs, fun v h => h, fun h => (by cases h), fun t R hR => ?_⟩
      obtain ⟨K, g⟩ := hR
      simp only at g
      refine ⟨K + 2, fun k hk2 => ?_⟩
      obtain ⟨k, rfl⟩ : ∃ m, k = m + 2 := ⟨k - 2, by omega⟩
      simp only [ladderbackref31_Reach.l2, ladderbackref31_Reach.j4]
      have e1 : rdOf false M (i : Int) = false := by simpa [rdOf] using hMi
      rw [if_pos (by omega), if_pos (by omega), if_pos (by simp only [rd_L1, Int.toNat_natCast]; omega), if_pos (by omega), e1, if_neg (by decide), wnext i (by omega)]
      exact g k (by omega)
    | true =>
      have hb := hbig i
      have e1 : rdOf false M (i : Int) = true := by simpa [rdOf] using hMi
      have hstep : ∀ t k, ladderbackref31_Reach.l2 (k + 2) next w M t (i : Int) (k0 : Int) = (if 0 ≤ rd (next.getD i []) (k0 : Int) ∧ rd (next.getD i []) (k0 : Int) < (next.length : Int) ∧ rd (next.getD i []) (k0 : Int) ≠ w then ladderbackref31_Reach.l2 k next w (M.set (rd (next.getD i []) (k0 : Int)).toNat true) t (i : Int) ((k0 + 1 : Nat) : Int) else ladderbackref31_Reach.l2 k next w M t (i : Int) ((k0 + 1 : Nat) : Int)) := by
        intro t k
        simp only [ladderbackref31_Reach.l2, ladderbackref31_Reach.j4]
        rw [if_pos (by omega), if_pos (by omega), if_pos (by simp only [rd_L1, Int.toNat_natCast]; omega), if_pos (by omega), e1, if_pos rfl, if_pos (by omega), if_pos (by omega), if_pos (by omega), if_pos (by simp only [rd_L1, Int.toNat_natCast]; omega), wnext k0 (by omega)]
        simp only [rd_L1, Int.toNat_natCast]
        by_cases c1 : 0 ≤ rd (next.getD i []) (k0 : Int)
        · by_cases c2 : rd (next.getD i []) (k0 : Int) < (next.length : Int)
          · by_cases c3 : rd (next.getD i []) (k0 : Int) = w
            · simp only [ge_iff_le, c1, c2, c3, if_true, if_false, true_and, ne_eq, not_true_eq_false, and_false, ite_self]
            · have c4 : rd (next.getD i []) (k0 : Int) < (M.length : Int) := by omega
              simp only [ge_iff_le, c1, c2, c3, c4, if_true, if_false, true_and, ne_eq, not_false_eq_true]
          · simp only [ge_iff_le, c1, c2, if_true, if_false, false_and, and_false]
        · simp only [ge_iff_le, c1, if_false, false_and]
      generalize hc : rd (next.getD i []) (k0 : Int) = c at hstep
      by_cases hcc : 0 ≤ c ∧ c < (next.length : Int) ∧ c ≠ w
      · obtain ⟨h0, h1, h2⟩ := hcc
        have hcl : c.toNat < M.length := by omega
        have hE : E next i c.toNat := by
          refine ⟨?_, by omega⟩
          rw [Int.toNat_of_nonneg h0, ← hc]
          have : k0 < (next.getD i []).length := by omega
          have e : rd (next.getD i []) (k0 : Int) = (next.getD i [])[k0] := by
            generalize next.getD i [] = L at this ⊢
            simp [rd, this]
          rw [e]
          exact List.getElem_mem this
        obtain ⟨M', p1, p2, p3, p4, p5⟩ := ih (k0 + 1) (M.set c.toNat true) (by omega) (by simpa using hM) (fun v hv => by
          rcases (getD_set_t M c.toNat v hcl).mp hv with h | h
          · exact hs v h
          · subst h; exact .step (hs i hMi) hE (by rw [Int.toNat_of_nonneg h0]; exact h2))
        refine ⟨M', p1, p2, fun v hv => p3 v ((getD_set_t M c.toNat v hcl).mpr (Or.inl hv)), fun _ j hj1 hj2 v hv hvn hvw => ?_, fun t R hR => ?_⟩
        · by_cases e : j = k0
          · subst e
            rw [hc] at hv
            refine p3 v ((getD_set_t M c.toNat v hcl).mpr (Or.inr ?_))
            omega
          · exact p4 ((getD_set_t M c.toNat i hcl).mpr (Or.inl hMi)) j (by omega) hj2 v hv hvn hvw
        · obtain ⟨K, g⟩ := p5 t R hR
          simp only at g
          refine ⟨K + 2, fun k hk2 => ?_⟩
          obtain ⟨k, rfl⟩ : ∃ m, k = m + 2 := ⟨k - 2, by omega⟩
          show ladderbackref31_Reach.l2 (k + 2) next w M t (i : Int) (k0 : Int) = some R
          rw [hstep t k, if_pos ⟨h0, h1, h2⟩]
          exact g k (by omega)
      · obtain ⟨M', p1, p2, p3, p4, p5⟩ := ih (k0 + 1) M (by omega) hM hs
        refine ⟨M', p1, p2, p3, fun hi2 j hj1 hj2 v hv hvn hvw => ?_, fun t R hR => ?_⟩
        · by_cases e : j = k0
          · subst e
            rw [hc] at hv
            exact absurd ⟨by omega, by omega, by rw [hv]; exact hvw⟩ hcc
          · exact p4 hMi j (by omega) hj2 v hv hvn hvw
        · obtain ⟨K, g⟩ := p5 t R hR
          simp only at g
          refine ⟨K + 2, fun k hk2 => ?_⟩
          obtain ⟨k, rfl⟩ : ∃ m, k = m + 2 := ⟨k - 2, by omega⟩
          show ladderbackref31_Reach.l2 (k + 2) next w M t (i : Int) (k0 : Int) = some R
          rw [hstep t k, if_neg hcc]
          exact g k (by omega)
include hn hbig in
theorem l1_ev : ∀ (r i : Nat) (M : List Bool), i + r = next.length → M.length = next.length → Sound next f w M →
    ∃ M' : List Bool, M'.length = next.length ∧ Sound next f w M' ∧ (∀ v, M.getD v false = true → M'.getD v false = true) ∧ (∀ u, i ≤ u → M.getD u false = true → ∀ v, E next u v → (v : Int) ≠ w → M'.getD v false = true) ∧
      ∀ (t : Nat) R, t < next.length → Ev (fun k => ladderbackref31_Reach.l0 k next w M' ((t + 1 : Nat) : Int)) R → Ev (fun k => ladderbackref31_Reach.l1 k next w M (t : Int) (i : Int)) R := by
  intro r
  induction r with
  | zero =>
    intro i M hi hM hs
    refine ⟨M, hM, hs, fun v h => h, fun u hu hMu => by have := getD_lt hMu; omega, fun t R ht hR => ?_⟩
    obtain ⟨K, g⟩ := hR
    simp only at g
    refine ⟨K + 1, fun k hk2 => ?_⟩
    obtain ⟨k, rfl⟩ : ∃ m, k = m + 1 := ⟨k - 1, by omega⟩
    simp only [ladderbackref31_Reach.l1]
    rw [if_neg (by omega), wnext t (by omega)]
    exact g k (by omega)
  | succ r ih =>
    intro i M hi hM hs
    obtain ⟨M1, p1, p2, p3, p4, p5⟩ := l2_ev next f w hn hbig i (by omega) (next.getD i []).length 0 M (by omega) hM hs
    obtain ⟨M2, q1, q2, q3, q4, q5⟩ := ih (i + 1) M1 (by omega) p1 p2
    refine ⟨M2, q1, q2, fun v h => q3 v (p3 v h), fun u hu hMu v hE hvw => ?_, fun t R ht hR => ?_⟩
    · by_cases e : u = i
      · subst e
        obtain ⟨j, hj, hjv⟩ := List.getElem_of_mem hE.1
        refine q3 v (p4 hMu j (Nat.zero_le _) hj v ?_ hE.2 hvw)
        rw [← hjv]
        generalize next.getD u [] = L at hj ⊢
        simp [rd, hj]
      · exact q4 u (by omega) (p3 u hMu) v hE hvw
    · obtain ⟨K, g⟩ := p5 (t : Int) R (q5 t R ht hR)
      simp only at g
      refine ⟨K + 1, fun k hk2 => ?_⟩
      obtain ⟨k, rfl⟩ : ∃ m, k = m + 1 := ⟨k - 1, by omega⟩
      simp only [ladderbackref31_Reach.l1]
      rw [if_pos (by omega)]
      exact g k (by omega)
def Full (M : List Bool) : Prop := ∀ v, Rw next f w v → M.getD v false = true
include hn hbig in
theorem l0_ev : ∀ (r t : Nat) (M : List Bool), t + r = next.length → M.length = next.length → Sound next f w M → (∀ v : Nat, (v : Int) = f → f ≠ w → M.getD v false = true) → (Full next f w M ∨ cnt M + t + 1 ≤ next.length) →
    ∃ M' : List Bool, M'.length = next.length ∧ Sound next f w M' ∧ Full next f w M' ∧ Ev (fun k => ladderbackref31_Reach.l0 k next w M (t : Int)) M' := by
  intro r
  induction r with
  | zero =>
    intro t M ht hM hs hr hc
    refine ⟨M, hM, hs, hc.resolve_right (by omega), 1, fun k hk => ?_⟩
    obtain ⟨k, rfl⟩ : ∃ m, k = m + 1 := ⟨k - 1, by omega⟩
    simp only [ladderbackref31_Reach.l0]
    rw [if_neg (by omega)]
  | succ r ih =>
    intro t M ht hM hs hr hc
    obtain ⟨M1, p1, p2, p3, p4, p5⟩ := l1_ev next f w hn hbig next.length 0 M (by omega) hM hs
    have hc1 : Full next f w M1 ∨ cnt M1 + (t + 1) + 1 ≤ next.length := by
      rcases hc with hc | hc
      · exact Or.inl fun v hv => p3 v (hc v hv)
      · obtain ⟨g1, g2⟩ := cnt_lt (M := M) (N := M1) (by omega) p3
        by_cases hex : ∃ v, M1.getD v false = true ∧ M.getD v false = false
        · exact Or.inr (by have := g2 hex; omega)
        · left
          intro v hv
          induction hv with
          | root h1 h2 h3 => exact p3 _ (hr _ h1 h3)
          | @step u v _ hE hw ihv =>
            have hMu : M.getD u false = true := by
              cases h : M.getD u false with
              | true => rfl
              | false => exact absurd ⟨u, ihv, h⟩ hex
            exact p4 u (Nat.zero_le _) hMu v hE hw
    obtain ⟨M', q1, q2, q3, q4⟩ := ih (t + 1) M1 (by omega) p1 p2 (fun v h1 h2 => p3 v (hr v h1 h2)) hc1
    refine ⟨M', q1, q2, q3, ?_⟩
    obtain ⟨K, g⟩ := p5 t M' (by omega) q4
    simp only at g
    refine ⟨K + 1, fun k hk2 => ?_⟩
    obtain ⟨k, rfl⟩ : ∃ m, k = m + 1 := ⟨k - 1, by omega⟩
    simp only [ladderbackref31_Reach.l0]
    rw [if_pos (by omega)]
    exact g k (by omega)
end
theorem reach_ev (next : List (List Int)) (hn : next.length ≤ 281474976710656) (hbig : ∀ i, (next.getD i []).length < 4611686018427387904) (f w : Int) :
    ∃ R : List Bool, Ev (fun k => ladderbackref31_Reach.f k next f w) R ∧ R.length = next.length ∧ ∀ v, R.getD v false = true ↔ Rw next f w v := by
  have hrep : ∀ v, (List.replicate next.length false).getD v false = false := fun v => by
    by_cases h : v < next.length <;> simp [List.getD_eq_getElem?_getD, h]
  have hno : (f < 0 ∨ f ≥ (next.length : Int) ∨ f = w) → ∀ v, ¬ Rw next f w v := by
    intro h v hv
    induction hv with
    | root h1 h2 h3 => omega
    | step _ _ _ ih => exact ih
  have hj0 : ∀ k, ladderbackref31_Reach.j0 (k + 1) next f w (List.replicate next.length false) true = some (List.replicate next.length false) := fun k => by simp [ladderbackref31_Reach.j0]
  have hbad : (f < 0 ∨ f ≥ (next.length : Int) ∨ f = w) → ∃ R : List Bool, Ev (fun k => ladderbackref31_Reach.f k next f w) R ∧ R.length = next.length ∧ ∀ v, R.getD v false = true ↔ Rw next f w v := by
    intro h
    refine ⟨List.replicate next.length false, ⟨1, fun k hk => ?_⟩, by simp, fun v => by rw [hrep v]; simp [hno h v]⟩
    obtain ⟨k, rfl⟩ : ∃ m, k = m + 1 := ⟨k - 1, by omega⟩
    simp only [ladderbackref31_Reach.f]
    rw [if_pos (by omega), if_pos (by omega), Int.toNat_natCast]
    simp only [Option.bind_some]
    by_cases c1 : f < 0
    · rw [if_pos c1]; exact hj0 k
    · rw [if_neg c1]
      by_cases c2 : f ≥ (next.length : Int)
      · rw [if_pos c2]; exact hj0 k
      · rw [if_neg c2, show (f == w) = true from beq_iff_eq.mpr (by omega)]; exact hj0 k
  by_cases h : f < 0 ∨ f ≥ (next.length : Int) ∨ f = w
  · exact hbad h
  · have h1 : 0 ≤ f := by omega
    have h2 : f < (next.length : Int) := by omega
    have h3 : f ≠ w := by omega
    have hfl : f.toNat < (List.replicate next.length false).length := by simp; omega
    have hcnt : cnt ((List.replicate next.length false).set f.toNat true) + 0 + 1 ≤ next.length := by
      have := cnt_set (M := List.replicate next.length false) (i := f.toNat) (by
        have : f.toNat < next.length := by omega
        simp [List.getD_eq_getElem?_getD, this])
      rw [cnt_replicate] at this
      omega
    obtain ⟨R, p1, p2, p3, K, g⟩ := l0_ev next f w (by omega) hbig next.length 0 ((List.replicate next.length false).set f.toNat true) (by omega) (by simp) (fun v hv => by
      rcases (getD_set_t _ _ v hfl).mp hv with h | h
      · rw [hrep v] at h; cases h
      · subst h; exact .root (by omega) (by omega) h3) (fun v hv _ => (getD_set_t _ _ v hfl).mpr (Or.inr (by omega))) (Or.inr hcnt)
    simp only at g
    refine ⟨R, ⟨K + 1, fun k hk => ?_⟩, p1, fun v => ⟨p2 v, p3 v⟩⟩
    obtain ⟨k, rfl⟩ : ∃ m, k = m + 1 := ⟨k - 1, by omega⟩
    simp only [ladderbackref31_Reach.f]
    rw [if_pos (by omega), if_pos (by omega), Int.toNat_natCast]
    simp only [Option.bind_some]
    rw [if_neg (by omega), if_neg (by omega), show (f == w) = false from beq_eq_false_iff_ne.mpr h3]
    simp only [ladderbackref31_Reach.j0]
    rw [if_neg (by decide), if_pos h1, if_pos (by simpa using h2)]
    exact g k (by omega)
end Go.Proofs.Ytfiffhcpgojkhaa.PdrInterParts
