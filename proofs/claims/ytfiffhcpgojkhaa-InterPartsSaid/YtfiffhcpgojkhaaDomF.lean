/- What dom.Order, dom.Idom and the document's order compute, in plain words; and of the order: places, each once, each but the first behind one from which one comes to it, and with each all to which one goes on. No condition. -/
namespace Go.Proofs.Ytfiffhcpgojkhaa.DomF
set_option linter.unusedVariables false
def dfsL (f : Nat → List Bool → List Int → Option (List Bool × List Int)) (n : Nat) : List Int → List Bool → List Int → Option (List Bool × List Int)
  | [], M, D => some (M, D)
  | c :: cs, M, D => if 0 ≤ c ∧ c < (n : Int) ∧ M.getD c.toNat true = false then (f c.toNat M D).bind fun p => dfsL f n cs p.1 p.2 else dfsL f n cs M D
def dfs (next : List (List Int)) : Nat → Nat → List Bool → List Int → Option (List Bool × List Int)
  | 0, _, _, _ => none
  | k + 1, i, M, D => (dfsL (dfs next k) next.length (next.getD i []) (M.set i true) D).map fun p => (p.1, p.2 ++ [(i : Int)])
/-- One goes on from u to v. -/
def E (next : List (List Int)) (u v : Nat) : Prop := (v : Int) ∈ next.getD u [] ∧ v < next.length
/-- Each place has one from which one comes to it behind it, or P. -/
def ParOk (next : List (List Int)) (P : Nat → Prop) : List Nat → Prop
  | [] => True
  | v :: B => ((∃ u, u ∈ B ∧ E next u v) ∨ P v) ∧ ParOk next P B
theorem ParOk.append {next : List (List Int)} {P : Nat → Prop} {A B : List Nat} (ha : ParOk next P A) (hb : ParOk next P B) : ParOk next P (A ++ B) := by
  induction A with
  | nil => exact hb
  | cons v A ih =>
    refine ⟨?_, ih ha.2⟩
    rcases ha.1 with ⟨u, hu, he⟩ | h
    · exact Or.inl ⟨u, List.mem_append_left _ hu, he⟩
    · exact Or.inr h
theorem ParOk.mono {next : List (List Int)} {P Q : Nat → Prop} {A : List Nat} (h : ∀ v, v ∈ A → P v → Q v) (ha : ParOk next P A) : ParOk next Q A := by
  induction A with
  | nil => trivial
  | cons v A ih => exact ⟨ha.1.imp id (h v List.mem_cons_self), ih (fun v hv => h v (List.mem_cons_of_mem _ hv)) ha.2⟩
theorem ParOk.close {next : List (List Int)} {i : Nat} {A : List Nat} (ha : ParOk next (E next i) A) : ParOk next (· = i) (A ++ [i]) := by
  induction A with
  | nil => exact ⟨Or.inr rfl, trivial⟩
  | cons v A ih =>
    refine ⟨?_, ih ha.2⟩
    rcases ha.1 with ⟨u, hu, he⟩ | h
    · exact Or.inl ⟨u, List.mem_append_left _ hu, he⟩
    · exact Or.inl ⟨i, List.mem_append_right _ (List.mem_singleton.mpr rfl), h⟩
def cnt (M : List Bool) : Nat := (M.filter (! ·)).length
theorem cnt_set {M : List Bool} {i : Nat} (h : M.getD i true = false) : cnt (M.set i true) + 1 = cnt M := by
  induction M generalizing i with
  | nil => simp at h
  | cons b M ih =>
    cases i with
    | zero => simp at h; subst h; simp [cnt]
    | succ i =>
      have := ih (i := i) (by simpa using h)
      cases b <;> simp [cnt] at this ⊢ <;> omega
theorem cnt_le {M N : List Bool} (hl : M.length = N.length) (h : ∀ v, M.getD v true = true → N.getD v true = true) : cnt N ≤ cnt M := by
  induction M generalizing N with
  | nil => cases N with
    | nil => exact Nat.le_refl _
    | cons => simp at hl
  | cons b M ih =>
    cases N with
    | nil => simp at hl
    | cons c N =>
      have h1 := ih (N := N) (by simpa using hl) (fun v hv => by simpa using h (v + 1) (by simpa using hv))
      have h0 := h 0
      cases b <;> cases c <;> simp [cnt] at h1 h0 ⊢ <;> omega
structure Spec (next : List (List Int)) (P : Nat → Prop) (M M' : List Bool) (S : List Nat) : Prop where
  len : M'.length = M.length
  met : ∀ v, M'.getD v true = true ↔ M.getD v true = true ∨ v ∈ S
  nd : S.Nodup
  new : ∀ v, v ∈ S → M.getD v true = false
  par : ParOk next P S
  clo : ∀ u, u ∈ S → ∀ v, E next u v → M'.getD v true = true
theorem getD_set {M : List Bool} {i v : Nat} (hi : i < M.length) : (M.set i true).getD v true = true ↔ M.getD v true = true ∨ v = i := by
  by_cases h : v = i
  · subst h; simp [List.getD_eq_getElem?_getD, hi]
  · simp [List.getD_eq_getElem?_getD, Ne.symm h, h]
theorem ints_append (A B : List Nat) : (A ++ B).map (fun v : Nat => (v : Int)) = A.map (fun v : Nat => (v : Int)) ++ B.map (fun v : Nat => (v : Int)) := List.map_append
theorem dfs_spec (next : List (List Int)) : ∀ k i M D, M.length = next.length → i < next.length → M.getD i true = false → cnt M ≤ k →
    ∃ M' S, dfs next k i M D = some (M', D ++ (S ++ [i]).map (fun v : Nat => (v : Int))) ∧ Spec next (· = i) M M' (S ++ [i]) := by
  intro k
  induction k with
  | zero =>
    intro i M D hl hi hm hc
    have := cnt_set hm
    omega
  | succ k ih =>
    intro i M D hl hi hm hc
    have hi' : i < M.length := by omega
    have key : ∀ cs, (∀ c, c ∈ cs → c ∈ next.getD i []) → ∀ M D, M.length = next.length → cnt M ≤ k → ∃ M' S, dfsL (dfs next k) next.length cs M D = some (M', D ++ S.map (fun v : Nat => (v : Int))) ∧ Spec next (E next i) M M' S ∧ ∀ v : Nat, (v : Int) ∈ cs → v < next.length → M'.getD v true = true := by
      intro cs
      induction cs with
      | nil =>
        intro _ M D hl hc
        refine ⟨M, [], by simp [dfsL], ⟨rfl, by simp, List.nodup_nil, by simp, trivial, by simp⟩, by simp⟩
      | cons c cs ihc =>
        intro hsub M D hl hc
        have hsub' : ∀ c, c ∈ cs → c ∈ next.getD i [] := fun c h => hsub c (List.mem_cons_of_mem _ h)
        simp only [dfsL]
        by_cases h : 0 ≤ c ∧ c < (next.length : Int) ∧ M.getD c.toNat true = false
        · rw [if_pos h]
          obtain ⟨h0, h1, h2⟩ := h
          obtain ⟨M1, S1, e1, p1⟩ := ih c.toNat M D hl (by omega) h2 hc
          rw [e1]
          simp only [Option.bind_some]
          have hc1 : cnt M1 ≤ k := Nat.le_trans (cnt_le p1.len.symm fun v hv => (p1.met v).mpr (Or.inl hv)) hc
          obtain ⟨M2, S2, e2, p2, c2⟩ := ihc hsub' M1 (D ++ (S1 ++ [c.toNat]).map (fun v : Nat => (v : Int))) (p1.len.trans hl) hc1
          refine ⟨M2, (S1 ++ [c.toNat]) ++ S2, ?_, ⟨p2.len.trans p1.len, ?_, ?_, ?_, ?_, ?_⟩, ?_⟩
          · rw [e2]; simp
          · intro v
            rw [p2.met, p1.met, List.mem_append (s := S1 ++ [c.toNat]), or_assoc]
          · refine List.nodup_append.mpr ⟨p1.nd, p2.nd, ?_⟩
            rintro a ha b hb rfl
            have := p2.new a hb
            rw [(p1.met a).mpr (Or.inr ha)] at this
            cases this
          · intro v hv
            rcases List.mem_append.mp hv with hv | hv
            · exact p1.new v hv
            · have h3 := p2.new v hv
              cases h4 : M.getD v true with
              | false => rfl
              | true => rw [(p1.met v).mpr (Or.inl h4)] at h3; cases h3
          · refine ParOk.append (p1.par.mono ?_) p2.par
            rintro v hv rfl
            exact ⟨by rw [Int.toNat_of_nonneg h0]; exact hsub _ List.mem_cons_self, by omega⟩
          · intro u hu v he
            rcases List.mem_append.mp hu with hu | hu
            · exact (p2.met v).mpr (Or.inl (p1.clo u hu v he))
            · exact p2.clo u hu v he
          · intro v hv hn
            rcases List.mem_cons.mp hv with hv | hv
            · refine (p2.met v).mpr (Or.inl ((p1.met v).mpr (Or.inr ?_)))
              rw [← hv]
              simp
            · exact c2 v hv hn
        · rw [if_neg h]
          obtain ⟨M2, S2, e2, p2, c2⟩ := ihc hsub' M D hl hc
          refine ⟨M2, S2, e2, p2, fun v hv hn => ?_⟩
          rcases List.mem_cons.mp hv with hv | hv
          · subst hv
            refine (p2.met v).mpr (Or.inl ?_)
            cases h4 : M.getD v true with
            | true => rfl
            | false => exact absurd ⟨by omega, by omega, by simpa using h4⟩ h
          · exact c2 v hv hn
    obtain ⟨M', S, e, p, c⟩ := key (next.getD i []) (fun _ h => h) (M.set i true) D (by simpa using hl) (by have := cnt_set hm; omega)
    have hmet : ∀ v, M'.getD v true = true ↔ M.getD v true = true ∨ v ∈ S ++ [i] := by
      intro v
      rw [p.met, getD_set hi', List.mem_append, List.mem_singleton, or_assoc, or_comm (a := v = i)]
    refine ⟨M', S, ?_, ⟨?_, hmet, ?_, ?_, ?_, ?_⟩⟩
    · simp only [dfs, e]
      simp
    · rw [p.len, List.length_set]
    · refine List.nodup_append.mpr ⟨p.nd, by simp, ?_⟩
      intro a ha b hb
      rw [List.mem_singleton] at hb
      rintro rfl
      have h := p.new a ha
      rw [(getD_set hi').mpr (Or.inr hb)] at h
      cases h
    · intro v hv
      rcases List.mem_append.mp hv with hv | hv
      · have h := p.new v hv
        cases h4 : M.getD v true with
        | false => rfl
        | true => rw [(getD_set hi').mpr (Or.inl h4)] at h; cases h
      · rw [List.mem_singleton] at hv; rw [hv]; exact hm
    · exact p.par.close
    · intro u hu v he
      rcases List.mem_append.mp hu with hu | hu
      · exact p.clo u hu v he
      · rw [List.mem_singleton] at hu
        subst hu
        exact c v he.1 he.2
def orderF (next : List (List Int)) : Option (List Int) := if next.length = 0 then some [] else (dfs next next.length 0 (List.replicate next.length false) []).map fun p => p.2.reverse
/-- One comes to a place. -/
inductive Rch (next : List (List Int)) : Nat → Prop
  | root : 0 < next.length → Rch next 0
  | step {u v : Nat} : Rch next u → E next u v → Rch next v
theorem cnt_replicate (n : Nat) : cnt (List.replicate n false) = n := by simp [cnt]
/-- The order. -/
theorem orderF_spec (next : List (List Int)) (hn : 0 < next.length) : ∃ T : List Nat, orderF next = some ((0 :: T).map (fun v : Nat => (v : Int))) ∧ (0 :: T).Nodup ∧ (∀ v, v ∈ 0 :: T ↔ Rch next v) ∧ (∀ A v B, T = A ++ v :: B → ∃ u, u ∈ 0 :: A ∧ E next u v) := by
  obtain ⟨M', S, e, p⟩ := dfs_spec next next.length 0 (List.replicate next.length false) [] (by simp) hn (by simp [List.getD_eq_getElem?_getD, hn]) (by rw [cnt_replicate]; exact Nat.le_refl _)
  have hlt : ∀ v, v < next.length → (List.replicate next.length false).getD v true = false := fun v hv => by simp [List.getD_eq_getElem?_getD, hv]
  have hge : ∀ v, v ∈ S ++ [0] → v < next.length := by
    intro v hv
    have h := p.new v hv
    by_cases hl : v < next.length
    · exact hl
    · simp [List.getD_eq_getElem?_getD, hl] at h
  have hrev : (S ++ [0]).reverse = 0 :: S.reverse := by simp
  refine ⟨S.reverse, ?_, ?_, ?_, ?_⟩
  · simp only [orderF, if_neg (Nat.pos_iff_ne_zero.mp hn), e]
    simp
  · rw [← hrev]
    exact List.pairwise_reverse.mpr (p.nd.imp Ne.symm)
  · intro v
    rw [← hrev, List.mem_reverse]
    constructor
    · -- by the parents, from the end on
      have : ∀ A : List Nat, ParOk next (· = 0) A → ∀ v, v ∈ A → Rch next v := by
        intro A
        induction A with
        | nil => intro _ v hv; cases hv
        | cons a A ih =>
          intro h v hv
          rcases List.mem_cons.mp hv with rfl | hv
          · rcases h.1 with ⟨u, hu, he⟩ | rfl
            · exact .step (ih h.2 u hu) he
            · exact .root hn
          · exact ih h.2 v hv
      exact this _ p.par v
    · intro h
      induction h with
      | root => simp
      | @step u v _ he ih =>
        have h1 := p.clo u ih v he
        rcases (p.met v).mp h1 with h | h
        · rw [hlt v he.2] at h; cases h
        · exact h
  · intro A v B hS
    have h2 : S = B.reverse ++ v :: A.reverse := by
      have := congrArg List.reverse hS
      simpa using this
    have h3 := p.par
    rw [h2, List.append_assoc] at h3
    have : ∀ X : List Nat, ParOk next (· = 0) (X ++ (v :: A.reverse ++ [0])) → ParOk next (· = 0) (v :: (A.reverse ++ [0])) := by
      intro X
      induction X with
      | nil => exact id
      | cons x X ih => exact fun h => ih h.2
    have h4 := (this _ h3).1
    rcases h4 with ⟨u, hu, he⟩ | rfl
    · refine ⟨u, ?_, he⟩
      simpa [or_comm] using hu
    · have hnd := p.nd
      rw [h2] at hnd
      exact absurd rfl ((List.nodup_append.mp hnd).2.2 0 (by simp) 0 (by simp))
end Go.Proofs.Ytfiffhcpgojkhaa.DomF
