/- What dom.Order answers, as places; plain. No condition but that the graph is small. -/
import Derived.Test.YtfiffhcpgojkhaaDomE
import Derived.Test.YtfiffhcpgojkhaaDomT
namespace Go.Proofs.Ytfiffhcpgojkhaa.DomP
open Go.Proofs.Ytfiffhcpgojkhaa Go.Proofs.Ytfiffhcpgojkhaa.DomA Go.Proofs.Ytfiffhcpgojkhaa.DomF Go.Proofs.Ytfiffhcpgojkhaa.DomT Go.RowKit Go.Proofs.YtfiffhcpgojkhaaW.PrintWords
set_option linter.unusedSimpArgs false
set_option linter.unusedVariables false
theorem nodup_len : ∀ (n : Nat) (L : List Nat), L.Nodup → (∀ v, v ∈ L → v < n) → L.length ≤ n := by
  intro n
  induction n with
  | zero =>
    intro L _ h
    cases L with
    | nil => exact Nat.le_refl _
    | cons a L => exact absurd (h a List.mem_cons_self) (by omega)
  | succ n ih =>
    intro L hn h
    by_cases hm : n ∈ L
    · have h1 : (L.erase n).Nodup := hn.erase _
      have h2 := ih (L.erase n) h1 (fun v hv => by
        have h3 := h v (List.mem_of_mem_erase hv)
        have h4 : v ≠ n := fun e => by subst e; exact (List.Nodup.mem_erase_iff hn).mp hv |>.1 rfl
        omega)
      rw [List.length_erase_of_mem hm] at h2
      omega
    · have := ih L hn (fun v hv => by
        have h3 := h v hv
        have h4 : v ≠ n := fun e => hm (e ▸ hv)
        omega)
      omega
/-- Few places, few ways. -/
def Small (next : List (List Int)) : Prop := next.length ≤ 1000 ∧ ∀ i, (next.getD i []).length ≤ 1000
def pre (next : List (List Int)) (p j : Nat) : Prop := Rch next p ∧ E next p j
theorem Rch.lt {next : List (List Int)} {v : Nat} (h : Rch next v) : v < next.length := by
  cases h with
  | root h => exact h
  | step _ h => exact h.2
/-- The order as places. -/
structure Ord (next : List (List Int)) (T : List Nat) : Prop where
  nd : (0 :: T).Nodup
  mem : ∀ v, v ∈ 0 :: T ↔ Rch next v
  par : ∀ A v B, T = A ++ v :: B → ∃ u, u ∈ 0 :: A ∧ E next u v
section
variable {next : List (List Int)} {T : List Nat}
def at_ (T : List Nat) (v : Nat) : Nat := (0 :: T).idxOf v
theorem at_lt (o : Ord next T) {v : Nat} (h : Rch next v) : at_ T v < T.length + 1 := by
  have := List.idxOf_lt_length_of_mem ((o.mem v).mpr h)
  simpa [at_] using this
theorem at_inj (o : Ord next T) {u v : Nat} (hu : Rch next u) (hv : Rch next v) (h : at_ T u = at_ T v) : u = v := by
  have h1 := List.getElem_idxOf (List.idxOf_lt_length_of_mem ((o.mem u).mpr hu))
  have h2 := List.getElem_idxOf (List.idxOf_lt_length_of_mem ((o.mem v).mpr hv))
  unfold at_ at h
  rw [← h1, ← h2]
  simp only [h]
theorem at_0 : at_ T 0 = 0 := by simp [at_]
theorem at_mid (o : Ord next T) {A B : List Nat} {v : Nat} (h : T = A ++ v :: B) : at_ T v = A.length + 1 := by
  have hnd := o.nd
  rw [h] at hnd
  have h0 : v ≠ 0 := by
    rintro rfl
    simp at hnd
  have hA : v ∉ A := by
    intro hm
    have h2 := (List.nodup_cons.mp hnd).2
    exact (List.nodup_append.mp h2).2.2 v hm v List.mem_cons_self rfl
  unfold at_
  rw [h, List.idxOf_cons, show (0 == v) = false from beq_eq_false_iff_ne.mpr (Ne.symm h0)]
  simp only [cond_false]
  rw [List.idxOf_append, if_neg hA, List.idxOf_cons_self]
  omega
theorem at_before (o : Ord next T) {A B : List Nat} {v u : Nat} (h : T = A ++ v :: B) (hu : Rch next u) : at_ T u < at_ T v ↔ u ∈ 0 :: A := by
  rw [at_mid o h]
  constructor
  · intro hl
    have h1 := List.getElem_idxOf (List.idxOf_lt_length_of_mem ((o.mem u).mpr hu))
    unfold at_ at hl
    have key : ∀ (q : Nat) (hq : q < (0 :: T).length), q < A.length + 1 → (0 :: T)[q] ∈ 0 :: A := by
      subst h
      intro q hq hl
      have : (0 :: (A ++ v :: B))[q] = (0 :: A)[q]'(by simpa using hl) := @List.getElem_append_left _ q (0 :: A) (v :: B) (by simpa using hl) (by simpa using hq)
      rw [this]
      exact List.getElem_mem _
    have h2 := key _ (List.idxOf_lt_length_of_mem ((o.mem u).mpr hu)) hl
    rw [h1] at h2
    exact h2
  · intro hm
    unfold at_
    rw [h, show (0 :: (A ++ v :: B)) = (0 :: A) ++ v :: B from rfl, List.idxOf_append, if_pos hm]
    have := List.idxOf_lt_length_of_mem hm
    simpa using this
theorem exists_par (o : Ord next T) (v : Nat) : ∃ u, (Rch next v → Rch next u ∧ (v ≠ 0 → at_ T u < at_ T v ∧ pre next u v)) ∧ (v = 0 → u = 0) := by
  by_cases hv : v ∈ T
  · obtain ⟨A, B, hT⟩ := List.append_of_mem hv
    obtain ⟨u, hu, hE⟩ := o.par A v B hT
    have hR : Rch next u := (o.mem u).mp (by
      rw [hT]
      rcases List.mem_cons.mp hu with h | h
      · subst h; exact List.mem_cons_self
      · exact List.mem_cons_of_mem _ (List.mem_append_left _ h))
    refine ⟨u, fun _ => ⟨hR, fun _ => ⟨(at_before o hT hR).mpr hu, hR, hE⟩⟩, ?_⟩
    rintro rfl
    have := o.nd
    simp [hv] at this
  · refine ⟨0, fun h => ?_, fun _ => rfl⟩
    have h2 := (o.mem v).mpr h
    rcases List.mem_cons.mp h2 with h3 | h3
    · subst h3; exact ⟨h, fun h => absurd rfl h⟩
    · exact absurd h3 hv
noncomputable def par (o : Ord next T) (v : Nat) : Nat := (exists_par o v).choose
theorem gr (o : Ord next T) (hn : 0 < next.length) : Gr (at_ T) (par o) (Rch next) (pre next) where
  r0 := .root hn
  p0 := (exists_par o 0).choose_spec.2 rfl
  parR := fun j h => ((exists_par o j).choose_spec.1 h).1
  parL := fun j h h0 => (((exists_par o j).choose_spec.1 h).2 h0).1
  parE := fun j h h0 => (((exists_par o j).choose_spec.1 h).2 h0).2
  preR := fun p j h => h.1
end
end Go.Proofs.Ytfiffhcpgojkhaa.DomP
