/- The document's graph with its end, and that the turned one tells the same; plain. No condition but that the graph is small. -/
import Derived.Test.YtalhmelcbodjeaaPdtPdomNearest
import Derived.Test.YtalhmelcbodjeaaPdrPdomNearest
import Derived.Test.YtalhmelcbodjeaaDomS
namespace Go.Proofs.Ytalhmelcbodjeaa.PduPdomNearest
open Go.Proofs.Ytalhmelcbodjeaa Go.Proofs.Ytalhmelcbodjeaa.QPdomNearest Go.Proofs.Ytalhmelcbodjeaa.PdB Go.Proofs.Ytalhmelcbodjeaa.PdtPdomNearest Go.Proofs.Ytalhmelcbodjeaa.PdrPdomNearest Go.Proofs.Ytalhmelcbodjeaa.DomS Go.Proofs.Ytalhmelcbodjeaa.DomA Go.Proofs.Ytalhmelcbodjeaa.DomF Go.Proofs.Ytalhmelcbodjeaa.DomP Go.Proofs.Ytalhmelcbodjeaa.DomT Go.RowKit Go.Proofs.YtalhmelcbodjeaaW.PrintWords Go.Proofs.YtalhmelcbodjeaaW.PrintLast Go.Proofs.YtalhmelcbodjeaaW.PrintMore
set_option linter.unusedSimpArgs false
set_option linter.unusedVariables false
def inn (next : List (List Int)) (l : List Int) : List Int := l.filter fun c => decide (0 ≤ c ∧ c < (next.length : Int))
def rowE (next : List (List Int)) (i : Nat) : List Int := if (inn next (next.getD i [])).length = 0 then [(next.length : Int)] else inn next (next.getD i [])
def endG (next : List (List Int)) : List (List Int) := (List.range next.length).map (rowE next) ++ [[]]
theorem ended_ev (next : List (List Int)) (hn : next.length ≤ 20) (hf : ∀ i, (next.getD i []).length ≤ 40) : Ev (fun k => ladderbackref32_Ended.f k next) (endG next) := by
  have inner : ∀ (i : Nat), i < next.length → Ev (fun k => ladderbackref32_Ended.l0 k next ((List.range (i + 1)).map (rowE next)) (next.length : Int) ((i + 1 : Nat) : Int)) (endG next) →
      ∀ (r j : Nat), j + r = (next.getD i []).length → Ev (fun k => ladderbackref32_Ended.l1 k next ((List.range i).map (rowE next)) (next.length : Int) (i : Int) (inn next ((next.getD i []).take j)) (j : Int)) (endG next) := by
    intro i hi hgo r
    have hfi := hf i
    induction r with
    | zero =>
      intro j hj
      obtain rfl : j = (next.getD i []).length := by omega
      rw [List.take_length]
      obtain ⟨K, g⟩ := hgo
      simp only at g
      refine ⟨K + 1, fun k hk => ?_⟩
      obtain ⟨k, rfl⟩ : ∃ m, k = m + 1 := ⟨k - 1, by omega⟩
      have hg := g k (by omega)
      rw [List.range_succ, List.map_append, List.map_cons, List.map_nil] at hg
      simp only [ladderbackref32_Ended.l1]
      rw [if_pos (by omega), if_pos (by omega), rdL1_eq, if_neg (by omega), wnext i (by omega)]
      by_cases h0 : (inn next (next.getD i [])).length = 0
      · rw [if_pos (by omega), if_pos (by rw [List.length_map, List.length_range]; omega)]
        unfold rowE at hg ⊢
        rw [if_pos h0] at hg
        exact hg
      · rw [if_neg (by omega), if_pos (by rw [List.length_map, List.length_range]; omega)]
        unfold rowE at hg ⊢
        rw [if_neg h0] at hg
        exact hg
    | succ r ih =>
      intro j hj
      obtain ⟨K, g⟩ := ih (j + 1) (by omega)
      simp only at g
      refine ⟨K + 1, fun k hk => ?_⟩
      obtain ⟨k, rfl⟩ : ∃ m, k = m + 1 := ⟨k - 1, by omega⟩
      have hg := g k (by omega)
      have hlen : (inn next ((next.getD i []).take j)).length ≤ 40 := by
        have h1 := List.length_filter_le (fun c => decide (0 ≤ c ∧ c < (next.length : Int))) ((next.getD i []).take j)
        rw [List.length_take] at h1
        unfold inn
        omega
      rw [take_rd _ j (by omega)] at hg
      unfold inn at hg hlen ⊢
      rw [List.filter_append] at hg
      simp only [ladderbackref32_Ended.l1]
      rw [if_pos (by omega), if_pos (by omega), rdL1_eq, if_pos (by omega), if_pos (by omega), wnext j (by omega)]
      by_cases e1 : rd (next.getD i []) (j : Int) ≥ 0
      · rw [if_pos e1]
        by_cases e2 : rd (next.getD i []) (j : Int) < (next.length : Int)
        · rw [if_pos e2, if_pos (by omega)]
          rw [List.filter_cons_of_pos (by simpa using And.intro e1 e2), List.filter_nil] at hg
          exact hg
        · rw [if_neg e2]
          rw [List.filter_cons_of_neg (by rw [decide_eq_true_eq]; omega), List.filter_nil, List.append_nil] at hg
          exact hg
      · rw [if_neg e1]
        rw [List.filter_cons_of_neg (by rw [decide_eq_true_eq]; omega), List.filter_nil, List.append_nil] at hg
        exact hg
  have key : ∀ (r i : Nat), i + r = next.length → Ev (fun k => ladderbackref32_Ended.l0 k next ((List.range i).map (rowE next)) (next.length : Int) (i : Int)) (endG next) := by
    intro r
    induction r with
    | zero =>
      intro i hi
      obtain rfl : i = next.length := by omega
      refine ⟨1, fun k hk => ?_⟩
      obtain ⟨k, rfl⟩ : ∃ m, k = m + 1 := ⟨k - 1, by omega⟩
      simp only [ladderbackref32_Ended.l0]
      rw [if_neg (by omega), if_pos (by rw [List.length_map, List.length_range]; omega)]
      rfl
    | succ r ih =>
      intro i hi
      obtain ⟨K, g⟩ := inner i (by omega) (ih (i + 1) (by omega)) _ 0 (Nat.zero_add _)
      simp only at g
      refine ⟨K + 1, fun k hk => ?_⟩
      obtain ⟨k, rfl⟩ : ∃ m, k = m + 1 := ⟨k - 1, by omega⟩
      simp only [ladderbackref32_Ended.l0]
      rw [if_pos (by omega)]
      exact g k (by omega)
  obtain ⟨K, g⟩ := key next.length 0 (by omega)
  exact ⟨K, fun k hk => by simp only [ladderbackref32_Ended.f]; exact g k hk⟩
theorem endG_len (next : List (List Int)) : (endG next).length = next.length + 1 := by simp [endG]
theorem endG_at (next : List (List Int)) (i : Nat) (hi : i < next.length) : (endG next).getD i [] = rowE next i := by
  simp [endG, List.getD_eq_getElem?_getD, List.getElem?_append, hi]
theorem endG_last (next : List (List Int)) : (endG next).getD next.length [] = [] := by
  simp [endG, List.getD_eq_getElem?_getD]
theorem rowE_mem (next : List (List Int)) (i : Nat) (x : Int) : x ∈ rowE next i ↔ (x ∈ next.getD i [] ∧ 0 ≤ x ∧ x < (next.length : Int)) ∨ (x = (next.length : Int) ∧ ∀ c ∈ next.getD i [], ¬ (0 ≤ c ∧ c < (next.length : Int))) := by
  unfold rowE
  have hm : ∀ y, y ∈ inn next (next.getD i []) ↔ y ∈ next.getD i [] ∧ 0 ≤ y ∧ y < (next.length : Int) := by intro y; simp [inn]
  split
  · rename_i h0
    have e : inn next (next.getD i []) = [] := List.eq_nil_of_length_eq_zero h0
    have hno : ∀ c ∈ next.getD i [], ¬ (0 ≤ c ∧ c < (next.length : Int)) := by
      intro c hc h
      have := (hm c).mpr ⟨hc, h⟩
      rw [e] at this
      cases this
    rw [List.mem_singleton]
    constructor
    · intro h; exact Or.inr ⟨h, hno⟩
    · rintro (⟨a, b⟩ | ⟨a, _⟩)
      · exact absurd b (hno x a)
      · exact a
  · rename_i h0
    rw [hm]
    constructor
    · intro h; exact Or.inl h
    · rintro (h | ⟨_, h⟩)
      · exact h
      · exfalso
        apply h0
        rw [List.length_eq_zero_iff, List.eq_nil_iff_forall_not_mem]
        intro c hc
        have := (hm c).mp hc
        exact h c this.1 this.2
theorem rowE_len (next : List (List Int)) (i : Nat) (hf : (next.getD i []).length ≤ 40) : (rowE next i).length ≤ 40 := by
  unfold rowE
  split
  · simp
  · exact Nat.le_trans (List.length_filter_le _ _) hf
/-- A place's number in the turned graph. -/
def phi (n i : Nat) : Nat := if i = n then 0 else i + 1
theorem phi_inj {n i j : Nat} (h : phi n i = phi n j) : i = j := by unfold phi at h; split at h <;> split at h <;> omega
theorem phi_lt {n i : Nat} (h : i ≤ n) : phi n i < n + 1 := by unfold phi; split <;> omega
theorem phi_sur {n p : Nat} (h : p < n + 1) : ∃ i, i ≤ n ∧ phi n i = p := by
  by_cases h0 : p = 0
  · exact ⟨n, Nat.le_refl _, by simp [phi, h0]⟩
  · exact ⟨p - 1, by omega, by unfold phi; split <;> omega⟩
theorem turn_E {next T : List (List Int)} (tn : Tn next T) {u v : Nat} (hu : u ≤ next.length) (hv : v ≤ next.length) : E (endG next) u v ↔ E T (phi next.length v) (phi next.length u) := by
  unfold E
  rw [endG_len, tn.len]
  have h1 : v < next.length + 1 := by omega
  have h2 := phi_lt hu
  simp only [h1, h2, and_true]
  by_cases eu : u = next.length
  · subst eu
    rw [endG_last]
    have e : phi next.length next.length = 0 := by simp [phi]
    rw [e]
    constructor
    · intro h; cases h
    · intro h
      exfalso
      by_cases ev : v = next.length
      · rw [ev, e] at h
        obtain ⟨i, a, b, _⟩ := (tn.end_ _).mp h
        omega
      · have e2 : phi next.length v = v + 1 := by simp [phi, ev]
        rw [e2] at h
        obtain ⟨i, a, b, _⟩ := (tn.at_ v (by omega) _).mp h
        omega
  · have e : phi next.length u = u + 1 := by simp [phi, eu]
    rw [e, endG_at _ _ (by omega), rowE_mem]
    by_cases ev : v = next.length
    · have e2 : phi next.length v = 0 := by simp [phi, ev]
      rw [e2, tn.end_]
      constructor
      · rintro (⟨_, _, h⟩ | ⟨_, h⟩)
        · omega
        · exact ⟨u, by omega, by omega, h⟩
      · rintro ⟨i, a, b, c⟩
        obtain rfl : i = u := by omega
        exact Or.inr ⟨by omega, c⟩
    · have e2 : phi next.length v = v + 1 := by simp [phi, ev]
      rw [e2, tn.at_ v (by omega)]
      constructor
      · rintro (⟨h, _⟩ | ⟨h, _⟩)
        · exact ⟨u, by omega, by omega, h⟩
        · omega
      · rintro ⟨i, a, b, c⟩
        obtain rfl : i = u := by omega
        exact Or.inl ⟨c, by omega, by omega⟩
theorem rw_ne {next : List (List Int)} {f w : Int} {v : Nat} (h : Rw next f w v) : (v : Int) ≠ w := by
  cases h with
  | root a _ b => rw [a]; exact b
  | step _ _ b => exact b
theorem rw_pre {next : List (List Int)} {w : Int} {f v x : Nat} (h : Rw next (v : Int) w x) (he : E next f v) (hf : (f : Int) ≠ w) (hl : f < next.length) : Rw next (f : Int) w x := by
  induction h with
  | root a b c =>
    rename_i y
    have e : y = v := by omega
    rw [e]
    exact .step (.root rfl hl hf) he c
  | step _ b c ih => exact .step ih b c
theorem av_rch {T : List (List Int)} (h0 : 0 < T.length) {x j : Nat} (h : Av (pre T) x j) : Rch T j := by
  cases h with
  | root _ => exact .root h0
  | step _ b _ => exact .step b.1 b.2
theorem turn_av {next T : List (List Int)} (tn : Tn next T) {w : Int} {x : Nat} (hw : ∀ v, v ≤ next.length → ((v : Int) = w ↔ phi next.length v = x)) {f : Nat} (hf : f ≤ next.length) :
    Rw (endG next) (f : Int) w next.length ↔ Av (pre T) x (phi next.length f) := by
  have hT0 : 0 < T.length := by rw [tn.len]; omega
  have hle : ∀ {v : Nat}, Rw (endG next) (f : Int) w v → v ≤ next.length := fun h => by have := h.lt; rw [endG_len] at this; omega
  constructor
  · intro h
    have key : ∀ v, Rw (endG next) (f : Int) w v → Av (pre T) x (phi next.length v) → Av (pre T) x (phi next.length f) := by
      intro v hv
      induction hv with
      | @root v a _ _ =>
        have e : v = f := by omega
        rw [e]
        exact id
      | step a b c ih =>
        rename_i u v
        intro hA
        have hu := hle a
        have hv : v ≤ next.length := by have := b.2; rw [endG_len] at this; omega
        exact ih (.step hA ⟨av_rch hT0 hA, (turn_E tn hu hv).mp b⟩ (fun e => rw_ne a ((hw u hu).mpr e)))
    refine key _ h ?_
    have e : phi next.length next.length = 0 := by simp [phi]
    rw [e]
    exact .root (fun e2 => rw_ne h ((hw _ (Nat.le_refl _)).mpr (by rw [e]; exact e2)))
  · intro h
    have key : ∀ y, Av (pre T) x y → ∀ f, f ≤ next.length → phi next.length f = y → Rw (endG next) (f : Int) w next.length := by
      intro y hy
      induction hy with
      | root a =>
        intro f hf e
        have e0 : phi next.length next.length = 0 := by simp [phi]
        obtain rfl : f = next.length := phi_inj (e.trans e0.symm)
        refine .root rfl (by rw [endG_len]; omega) (fun e2 => a ?_)
        rw [← (hw _ (Nat.le_refl _)).mp e2, e0]
      | step a b c ih =>
        rename_i p j
        intro f hf e
        have hp := DomP.Rch.lt b.1
        rw [tn.len] at hp
        obtain ⟨v, hv, rfl⟩ := phi_sur hp
        subst e
        exact rw_pre (ih v hv rfl) ((turn_E tn hf hv).mpr b.2) (fun e2 => c ((hw f hf).mp e2)) (by rw [endG_len]; omega)
    exact key _ h f hf rfl
theorem av_far {T : List (List Int)} (h0 : 0 < T.length) {x : Nat} (hx : T.length ≤ x) (j : Nat) : Av (pre T) x j ↔ Rch T j := by
  constructor
  · exact fun h => av_rch h0 h
  · intro h
    induction h with
    | root _ => exact .root (by omega)
    | step a b ih => exact .step ih ⟨a, b⟩ (by have := b.2; omega)
/-- Each way to the end goes through a: a dominates in the turned graph. -/
theorem through_ev (next T : List (List Int)) (hn : next.length ≤ 20) (hf : ∀ i, (next.getD i []).length ≤ 40) (tn : Tn next T) (a i : Nat) (ha : a ≤ next.length) (hi : i ≤ next.length) :
    ∃ b : Bool, Ev (fun k => ladderbackref32_Through.f k next (a : Int) (i : Int)) b ∧ (b = true ↔ Dm T (phi next.length a) (phi next.length i)) := by
  have hgl : ∀ j, ((endG next).getD j []).length < 4611686018427387904 := fun j => by
    by_cases h : j < next.length
    · rw [endG_at _ _ h]; have := rowE_len next j (hf j); omega
    · by_cases e : j = next.length
      · subst e; rw [endG_last]; simp
      · rw [show (endG next).getD j [] = [] by simp [List.getD_eq_getElem?_getD, List.getElem?_eq_none (show (endG next).length ≤ j by rw [endG_len]; omega)]]; simp
  have hT0 : 0 < T.length := by rw [tn.len]; omega
  have hl := endG_len next
  obtain ⟨K1, g1⟩ := ended_ev next hn hf
  obtain ⟨R1, ⟨K2, g2⟩, l1, m1⟩ := reach_ev (endG next) (by omega) hgl (i : Int) (-1)
  obtain ⟨R2, ⟨K3, g3⟩, l2, m2⟩ := reach_ev (endG next) (by omega) hgl (i : Int) (a : Int)
  have q1 := (turn_av tn (w := -1) (x := next.length + 1) (fun v hv => ⟨fun h => by omega, fun h => by have := phi_lt hv; omega⟩) hi).trans (av_far hT0 (by rw [tn.len]; exact Nat.le_refl _) _)
  have q2 := turn_av tn (w := (a : Int)) (x := phi next.length a) (fun v hv => ⟨fun h => by rw [show v = a by omega], fun h => by rw [phi_inj h]⟩) hi
  have e1 : ∀ R : List Bool, rdOf false R (next.length : Int) = R.getD next.length false := fun R => by simp [rdOf]
  simp only at g1 g2 g3
  refine ⟨R1.getD next.length false && !R2.getD next.length false, ⟨max K1 (max K2 K3), fun k hk => ?_⟩, ?_⟩
  · simp only [ladderbackref32_Through.f]
    rw [g1 k (by omega)]
    simp only [Option.bind_some]
    rw [g2 k (by omega)]
    simp only [Option.bind_some]
    rw [if_pos (by omega), if_pos (by omega), e1]
    cases c : R1.getD next.length false with
    | false => rw [if_neg (by decide)]; rfl
    | true =>
      rw [if_pos rfl, g3 k (by omega)]
      simp only [Option.bind_some]
      rw [if_pos (by omega), e1]
      rfl
  · unfold Dm
    rw [← q1, ← q2, ← m1, ← m2]
    simp
end Go.Proofs.Ytalhmelcbodjeaa.PduPdomNearest
