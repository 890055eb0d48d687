/- dom.Idom's rounds: they end, and each place's nearest dominator stands there; plain. No condition but that the graph is small. -/
import Derived.Test.YtfiffhcpgojkhaaDomP
namespace Go.Proofs.Ytfiffhcpgojkhaa.DomP
open Go.Proofs.Ytfiffhcpgojkhaa Go.Proofs.Ytfiffhcpgojkhaa.DomA Go.Proofs.Ytfiffhcpgojkhaa.DomF Go.Proofs.Ytfiffhcpgojkhaa.DomT Go.RowKit Go.Proofs.YtfiffhcpgojkhaaW.PrintWords
set_option linter.unusedSimpArgs false
set_option linter.unusedVariables false
theorem getDl_set (P : List (List Int)) (i j : Nat) (x : List Int) (hi : i < P.length) : (P.set i x).getD j [] = if j = i then x else P.getD j [] := by
  by_cases h : j = i
  · subst h; simp [List.getD_eq_getElem?_getD, hi]
  · rw [if_neg h]; simp [List.getD_eq_getElem?_getD, List.getElem?_set, Ne.symm h]
theorem innerP_spec (n : Nat) (i : Int) : ∀ (cs : List Int) (P : List (List Int)), P.length = n → (∀ j, (P.getD j []).length + cs.length < 17592186044416) →
    ∃ P', innerP n i cs P = some P' ∧ P'.length = n ∧ (∀ j, j < n → ∀ p, p ∈ P'.getD j [] ↔ p ∈ P.getD j [] ∨ (p = i ∧ (j : Int) ∈ cs)) ∧ ∀ j, (P'.getD j []).length ≤ (P.getD j []).length + cs.length := by
  intro cs
  induction cs with
  | nil => intro P hP _; exact ⟨P, rfl, hP, fun j _ p => by simp, fun j => Nat.le_refl _⟩
  | cons c cs ih =>
    intro P hP hb
    simp only [innerP]
    simp only [List.length_cons] at hb
    by_cases hc : 0 ≤ c ∧ c < (n : Int)
    · have hcl : c.toNat < P.length := by omega
      rw [if_pos hc, if_pos (by have := hb c.toNat; simp only [rdL]; omega)]
      obtain ⟨P', h1, h2, h3, h4⟩ := ih (P.set c.toNat (rdL P c ++ [i])) (by simpa using hP) (fun j => by
        rw [getDl_set _ _ _ _ hcl]
        have := hb j
        split
        · rename_i e; subst e; simp only [rdL, List.length_append, List.length_cons, List.length_nil]; omega
        · omega)
      refine ⟨P', h1, h2, fun j hj p => ?_, fun j => ?_⟩
      · rw [h3 j hj p, getDl_set _ _ _ _ hcl]
        by_cases e : j = c.toNat
        · have e2 : (j : Int) = c := by omega
          rw [if_pos e]
          subst e
          simp only [rdL, List.mem_append, List.mem_cons, List.not_mem_nil, or_false, e2, true_or, and_true]
          constructor
          · rintro ((h | h) | ⟨h, _⟩)
            · exact Or.inl h
            · exact Or.inr h
            · exact Or.inr h
          · rintro (h | h)
            · exact Or.inl (Or.inl h)
            · exact Or.inl (Or.inr h)
        · rw [if_neg e]
          have e2 : ¬ (j : Int) = c := by omega
          simp only [List.mem_cons, e2, false_or]
      · have h5 := h4 j
        rw [getDl_set _ _ _ _ hcl] at h5
        simp only [List.length_cons]
        split at h5
        · rename_i e; subst e; simp only [rdL, List.length_append, List.length_cons, List.length_nil] at h5; omega
        · omega
    · rw [if_neg hc]
      obtain ⟨P', h1, h2, h3, h4⟩ := ih P hP (fun j => by have := hb j; omega)
      refine ⟨P', h1, h2, fun j hj p => ?_, fun j => by have := h4 j; simp only [List.length_cons]; omega⟩
      rw [h3 j hj p]
      have e2 : ¬ (j : Int) = c := by omega
      simp only [List.mem_cons, e2, false_or]
section
variable {next : List (List Int)} {T : List Nat}
theorem at_idx (o : Ord next T) {A B : List Nat} {v : Nat} (h : 0 :: T = A ++ v :: B) : at_ T v = A.length := by
  have hnd := o.nd
  rw [h] at hnd
  have hA : v ∉ A := fun hm => (List.nodup_append.mp hnd).2.2 v hm v List.mem_cons_self rfl
  unfold at_
  rw [h, List.idxOf_append, if_neg hA, List.idxOf_cons_self]
  omega
theorem outerP_spec (o : Ord next T) (sm : Small next) : ∀ (B A : List Nat) (T1 : List Int) (P : List (List Int)), 0 :: T = A ++ B → T1.length = next.length → P.length = next.length → (∀ v, v ∈ A → T1.getD v 0 = (at_ T v : Int)) →
    (∀ j, j < next.length → ∀ p : Int, p ∈ P.getD j [] ↔ ∃ u : Nat, p = (u : Int) ∧ u ∈ A ∧ E next u j) → (∀ j, (P.getD j []).length ≤ 1000 * A.length) → ∃ T' P', outerP next (B.map fun v : Nat => (v : Int)) A.length T1 P = some (T', P') ∧ Tabs next T T' P' := by
  have hTl : (0 :: T).length ≤ next.length := nodup_len _ _ o.nd fun v hv => Rch.lt ((o.mem v).mp hv)
  intro B
  induction B with
  | nil =>
    intro A T1 P hA h1 h2 h3 h4 h5
    rw [List.append_nil] at hA
    subst hA
    refine ⟨T1, P, rfl, h1, fun v hv => h3 v ((o.mem v).mpr hv), fun j hj p => (h4 j hj p).trans ⟨fun ⟨u, e, hu, he⟩ => ⟨u, e, (o.mem u).mp hu, he⟩, fun ⟨u, e, hu, he⟩ => ⟨u, e, (o.mem u).mpr hu, he⟩⟩, fun j => ?_⟩
    have := h5 j
    have := sm.1
    omega
  | cons v B ih =>
    intro A T1 P hA h1 h2 h3 h4 h5
    have hvR : Rch next v := (o.mem v).mp (by rw [hA]; exact List.mem_append_right _ List.mem_cons_self)
    have hvl := Rch.lt hvR
    have hAl : A.length + 1 ≤ 1000 := by
      have e := congrArg List.length hA
      simp only [List.length_append, List.length_cons] at e hTl
      have := sm.1
      omega
    simp only [List.map_cons, outerP]
    rw [if_pos ⟨by omega, by omega⟩]
    have hcs : (rdL next (v : Int)).length ≤ 1000 := by simpa [rdL] using sm.2 v
    obtain ⟨P', e, p1, p2, p3⟩ := innerP_spec next.length (v : Int) (rdL next (v : Int)) P h2 (fun j => by have := h5 j; omega)
    rw [e]
    simp only [Option.bind_some, Int.toNat_natCast]
    have hvA : v ∉ A := by
      have hnd := o.nd
      rw [hA] at hnd
      exact fun hm => (List.nodup_append.mp hnd).2.2 v hm v List.mem_cons_self rfl
    obtain ⟨T', P2, e2, tb⟩ := ih (A ++ [v]) (T1.set v (A.length : Int)) P' (by rw [hA]; simp) (by simpa using h1) p1 (fun u hu => by
      rw [getD_set_ _ _ _ _ (by omega)]
      by_cases huv : u = v
      · rw [if_pos huv, huv, at_idx o hA]
      · rw [if_neg huv]
        rcases List.mem_append.mp hu with h | h
        · exact h3 u h
        · exact absurd (List.mem_singleton.mp h) huv) (fun j hj p => by
      rw [p2 j hj p, h4 j hj p]
      constructor
      · rintro (⟨u, e, hu, he⟩ | ⟨rfl, he⟩)
        · exact ⟨u, e, List.mem_append_left _ hu, he⟩
        · exact ⟨v, rfl, List.mem_append_right _ (List.mem_singleton.mpr rfl), by simpa [rdL] using he, hj⟩
      · rintro ⟨u, e3, hu, he⟩
        rcases List.mem_append.mp hu with h | h
        · exact Or.inl ⟨u, e3, h, he⟩
        · rw [List.mem_singleton] at h
          subst h
          exact Or.inr ⟨e3, by simpa [rdL] using he.1⟩) (fun j => by
      have := p3 j
      have := h5 j
      simp only [List.length_append, List.length_cons, List.length_nil]
      omega)
    exact ⟨T', P2, by simpa using e2, tb⟩
/-- The first round. -/
structure S1 (o : Ord next T) (A : List Nat) (D : List Int) : Prop where
  len : D.length = next.length
  un : ∀ v, v < next.length → v ∉ 0 :: A → D.getD v 0 = -1
  pos : ∀ v, v ∈ 0 :: A → 0 ≤ D.getD v 0
  inv : Inv (at_ T) (par o) (Rch next) (pre next) (fun j => Rch next j ∧ at_ T j < A.length + 1) (dOf D)
  fst : Fst (at_ T) (par o) (Rch next) (pre next) (dOf D) (A.length + 1)
/-- A later round's state. -/
structure S2 (o : Ord next T) (D : List Int) : Prop where
  len : D.length = next.length
  un : ∀ v, v < next.length → ¬ Rch next v → D.getD v 0 = -1
  pos : ∀ v, Rch next v → 0 ≤ D.getD v 0
  inv : Inv (at_ T) (par o) (Rch next) (pre next) (Rch next) (dOf D)
theorem pre_R {p j : Nat} (h : pre next p j) : Rch next j := .step h.1 h.2
theorem tab_elem {T1 : List Int} {P1 : List (List Int)} (tb : Tabs next T T1 P1) {i : Nat} (hi : i < next.length) (u : Nat) : (u : Int) ∈ P1.getD i [] ↔ pre next u i := by
  rw [tb.pm i hi]
  constructor
  · rintro ⟨v, e, h⟩
    have : u = v := by omega
    rw [this]; exact h
  · exact fun h => ⟨u, rfl, h⟩
theorem best_meets (o : Ord next T) (hn : 0 < next.length) {T1 : List Int} {P1 : List (List Int)} (tb : Tabs next T T1 P1) {D : List Int} (hD : D.length = next.length) {pr : Nat → Prop} (hpr : ∀ v, pr v ↔ Rch next v ∧ 0 ≤ D.getD v 0) (hc : Ch (at_ T) pr (dOf D)) {K : Nat} (hK : 2 * T.length + 2 < K)
    {i : Nat} (hi : Rch next i) (h0 : i ≠ 0) (hp : pr (par o i)) : ∃ m : Nat, bestF K T1 D (rdL P1 (i : Int)) (-1) = some (m : Int) ∧ Meets (dOf D) (pre next) pr i m := by
  have hil := Rch.lt hi
  have e0 : rdL P1 (i : Int) = P1.getD i [] := by simp [rdL]
  rw [e0]
  obtain ⟨b', e, h⟩ := bestF_spec o tb hD hpr hc hK (P1.getD i []) (fun p hp => by
    obtain ⟨u, e, hu⟩ := (tb.pm i hil p).mp hp
    exact ⟨u, e, hu.1⟩) (-1) (Or.inl rfl)
  rcases h with ⟨_, _, h3⟩ | ⟨m', rfl, h2, h3⟩
  · exact absurd hp (h3 (par o i) ((tab_elem tb hil _).mpr ((gr o hn).parE i hi h0)))
  · refine ⟨m', e, fun x => (h3 x).trans ⟨fun h p hp1 hp2 => h.2 p ((tab_elem tb hil p).mpr hp1) hp2, fun h => ⟨fun m e => by omega, fun u hu hp2 => h u ((tab_elem tb hil u).mp hu) hp2⟩⟩⟩
theorem pass_first (o : Ord next T) (hn : 0 < next.length) {T1 : List Int} {P1 : List (List Int)} (tb : Tabs next T T1 P1) {K : Nat} (hK : 2 * T.length + 2 < K) : ∀ (B A : List Nat) (D : List Int) (more : Bool), T = A ++ B → S1 o A D →
    ∃ D' more', passF K T1 P1 (B.map fun v : Nat => (v : Int)) D more = some (D', more') ∧ S1 o T D' ∧ (more' = false → B = [] ∧ D' = D) := by
  have g := gr o hn
  intro B
  induction B with
  | nil =>
    intro A D more hA s
    rw [List.append_nil] at hA
    subst hA
    exact ⟨D, more, rfl, s, fun _ => ⟨rfl, rfl⟩⟩
  | cons i B ih =>
    intro A D more hA s
    have hiR : Rch next i := (o.mem i).mp (by rw [hA]; exact List.mem_cons_of_mem _ (List.mem_append_right _ List.mem_cons_self))
    have hil := Rch.lt hiR
    have hat := at_mid o hA
    have h0 : i ≠ 0 := by rintro rfl; rw [at_0] at hat; omega
    have hpr : ∀ v, (Rch next v ∧ at_ T v < A.length + 1) ↔ Rch next v ∧ 0 ≤ D.getD v 0 := by
      intro v
      constructor
      · rintro ⟨h, hl⟩
        exact ⟨h, s.pos v ((at_before o hA h).mp (by omega))⟩
      · rintro ⟨h, hl⟩
        refine ⟨h, ?_⟩
        have : v ∈ 0 :: A := by
          apply Classical.byContradiction
          intro hm
          have := s.un v (Rch.lt h) hm
          omega
        have := (at_before o hA h).mpr this
        omega
    have hpi : Rch next (par o i) ∧ at_ T (par o i) < A.length + 1 := ⟨g.parR i hiR, by have := g.parL i hiR h0; omega⟩
    obtain ⟨m, e, hm⟩ := best_meets o hn tb s.len hpr s.inv.ch hK hiR h0 hpi
    have hiA : i ∉ 0 :: A := by
      intro h
      have := (at_before o hA hiR).mpr h
      omega
    have hDi := s.un i hil hiA
    have hnew : S1 o (A ++ [i]) (D.set i (m : Int)) := by
      have hpr' : (fun j => Rch next j ∧ at_ T j < A.length + 1) = fun j => Rch next j ∧ at_ T j < at_ T i := by rw [hat]
      have hinv := s.inv.step g h0 hiR hpi hm
      have hfst := Fst.step g (fun i j hi hj h => at_inj o hi hj h) (by rw [← hpr']; exact s.inv) (by rw [hat]; exact s.fst) h0 hiR (by rw [← hpr']; exact hm)
      refine ⟨by simpa using s.len, fun v hv hvA => ?_, fun v hv => ?_, ?_, ?_⟩
      · rw [getD_set_ _ _ _ _ (by rw [s.len]; exact hil), if_neg (by rintro rfl; exact hvA (by simp))]
        exact s.un v hv (fun h => hvA (by
          rcases List.mem_cons.mp h with h | h
          · subst h; exact List.mem_cons_self
          · exact List.mem_cons_of_mem _ (List.mem_append_left _ h)))
      · rw [getD_set_ _ _ _ _ (by rw [s.len]; exact hil)]
        by_cases e : v = i
        · rw [if_pos e]; omega
        · rw [if_neg e]
          refine s.pos v ?_
          simpa [e] using hv
      · rw [dOf_set _ _ _ (by rw [s.len]; exact hil)]
        have e2 : (fun j => Rch next j ∧ at_ T j < (A ++ [i]).length + 1) = fun j => (Rch next j ∧ at_ T j < A.length + 1) ∨ j = i := by
          funext j
          apply propext
          simp only [List.length_append, List.length_cons, List.length_nil]
          constructor
          · rintro ⟨h, hl⟩
            by_cases hl2 : at_ T j < A.length + 1
            · exact Or.inl ⟨h, hl2⟩
            · exact Or.inr (at_inj o h hiR (by omega))
          · rintro (⟨h, hl⟩ | rfl)
            · exact ⟨h, by omega⟩
            · exact ⟨hiR, by omega⟩
        rw [e2]
        exact hinv
      · rw [dOf_set _ _ _ (by rw [s.len]; exact hil)]
        simp only [List.length_append, List.length_cons, List.length_nil]
        rw [hat] at hfst
        exact hfst
    obtain ⟨D', more', e2, s2, h2⟩ := ih (A ++ [i]) (D.set i (m : Int)) true (by rw [hA]; simp) hnew
    refine ⟨D', more', ?_, s2, fun h => ?_⟩
    · simp only [List.map_cons, passF]
      rw [if_pos ⟨by omega, by have := s.len; omega, by simpa [rdL] using tb.pb i⟩, e]
      simp only [Option.bind_some]
      rw [rd_nat, hDi, if_neg (by omega), Int.toNat_natCast]
      exact e2
    · obtain ⟨hB, _⟩ := h2 h
      subst hB
      simp only [List.map_nil, passF, Option.some.injEq, Prod.mk.injEq] at e2
      rw [← e2.2] at h
      cases h
def mu (T : List Nat) (D : List Int) : Nat := (T.map fun v => at_ T (dOf D v)).sum
theorem sum_le {L : List Nat} {f g : Nat → Nat} (h : ∀ v, v ∈ L → g v ≤ f v) : (L.map g).sum ≤ (L.map f).sum := by
  induction L with
  | nil => exact Nat.le_refl _
  | cons a L ih =>
    simp only [List.map_cons, List.sum_cons]
    have := h a List.mem_cons_self
    have := ih fun v hv => h v (List.mem_cons_of_mem _ hv)
    omega
theorem sum_lt {L : List Nat} {f g : Nat → Nat} (h : ∀ v, v ∈ L → g v ≤ f v) {i : Nat} (hi : i ∈ L) (hl : g i < f i) : (L.map g).sum < (L.map f).sum := by
  induction L with
  | nil => cases hi
  | cons a L ih =>
    simp only [List.map_cons, List.sum_cons]
    have h1 := h a List.mem_cons_self
    rcases List.mem_cons.mp hi with rfl | hi
    · have := sum_le fun v hv => h v (List.mem_cons_of_mem _ hv)
      omega
    · have := ih (fun v hv => h v (List.mem_cons_of_mem _ hv)) hi
      omega
theorem upd_self (d : Nat → Nat) (i : Nat) : upd d i (d i) = d := by
  funext j
  unfold upd
  by_cases h : j = i
  · rw [if_pos h, h]
  · rw [if_neg h]
theorem pass_next (o : Ord next T) (hn : 0 < next.length) {T1 : List Int} {P1 : List (List Int)} (tb : Tabs next T T1 P1) {K : Nat} (hK : 2 * T.length + 2 < K) {D0 : List Int} (s0 : S2 o D0)
    (c0 : ∀ i, Rch next i → i ≠ 0 → ∀ x, (∀ p, pre next p i → C (dOf D0) x p) → C (dOf D0) x (dOf D0 i)) : ∀ (B A : List Nat) (D : List Int) (more : Bool), T = A ++ B → S2 o D → Nxt (at_ T) (par o) (Rch next) (pre next) (dOf D0) (dOf D) (A.length + 1) →
    ∃ D' more', passF K T1 P1 (B.map fun v : Nat => (v : Int)) D more = some (D', more') ∧ S2 o D' ∧ Nxt (at_ T) (par o) (Rch next) (pre next) (dOf D0) (dOf D') (T.length + 1) ∧ mu T D' ≤ mu T D ∧ (more' = true → more = true ∨ mu T D' < mu T D) ∧ (more' = false → more = false ∧ D' = D ∧ ∀ i, i ∈ B → Meets (dOf D) (pre next) (Rch next) i (dOf D i)) := by
  have g := gr o hn
  intro B
  induction B with
  | nil =>
    intro A D more hA s f
    rw [List.append_nil] at hA
    subst hA
    exact ⟨D, more, rfl, s, f, Nat.le_refl _, fun h => Or.inl h, fun h => ⟨h, rfl, by simp⟩⟩
  | cons i B ih =>
    intro A D more hA s f
    have hiT : i ∈ T := by rw [hA]; exact List.mem_append_right _ List.mem_cons_self
    have hiR : Rch next i := (o.mem i).mp (List.mem_cons_of_mem _ hiT)
    have hil := Rch.lt hiR
    have hat := at_mid o hA
    have h0 : i ≠ 0 := by rintro rfl; rw [at_0] at hat; omega
    have hpr : ∀ v, Rch next v ↔ Rch next v ∧ 0 ≤ D.getD v 0 := fun v => ⟨fun h => ⟨h, s.pos v h⟩, fun h => h.1⟩
    obtain ⟨m, e, hm⟩ := best_meets o hn tb s.len hpr s.inv.ch hK hiR h0 (g.parR i hiR)
    have hDi : D.getD i 0 = ((dOf D i : Nat) : Int) := by have := s.pos i hiR; unfold dOf; omega
    have hf2 : Nxt (at_ T) (par o) (Rch next) (pre next) (dOf D0) (dOf D) (at_ T i) := by rw [hat]; exact f
    have hbest := hf2.best g s0.inv c0 s.inv h0 hiR hm
    have hstep := hf2.step g (fun i j hi hj h => at_inj o hi hj h) s0.inv c0 s.inv h0 hiR hm
    have hinv := s.inv.step g h0 hiR (g.parR i hiR) hm
    have epr : (fun j => Rch next j ∨ j = i) = Rch next := by
      funext j
      exact propext ⟨fun h => h.elim id (fun h => h ▸ hiR), Or.inl⟩
    rw [epr] at hinv
    rw [hat] at hstep
    by_cases hmd : m = dOf D i
    · rw [hmd, upd_self] at hstep
      obtain ⟨D', more', e2, s2, n2, m2, b2, c2⟩ := ih (A ++ [i]) D more (by rw [hA]; simp) s (by simpa using hstep)
      refine ⟨D', more', ?_, s2, n2, m2, b2, fun h => ?_⟩
      · simp only [List.map_cons, passF]
        rw [if_pos ⟨by omega, by have := s.len; omega, by simpa [rdL] using tb.pb i⟩, e]
        simp only [Option.bind_some]
        rw [rd_nat, hDi, if_pos (by omega)]
        exact e2
      · obtain ⟨h1, h2, h3⟩ := c2 h
        refine ⟨h1, h2, fun v hv => ?_⟩
        rcases List.mem_cons.mp hv with rfl | hv
        · rw [← hmd]; exact hm
        · exact h3 v hv
    · have hlt : at_ T m < at_ T (dOf D i) := by
        rcases hbest.le s.inv.ch (s.inv.ch.dp i hiR) with e | e
        · exact absurd e hmd
        · exact e
      have hDl : i < D.length := by rw [s.len]; exact hil
      have hs2 : S2 o (D.set i (m : Int)) := by
        refine ⟨by simpa using s.len, fun v hv hR => ?_, fun v hR => ?_, by rw [dOf_set _ _ _ hDl]; exact hinv⟩
        · rw [getD_set_ _ _ _ _ hDl, if_neg (by rintro rfl; exact hR hiR)]
          exact s.un v hv hR
        · rw [getD_set_ _ _ _ _ hDl]
          by_cases e : v = i
          · rw [if_pos e]; omega
          · rw [if_neg e]; exact s.pos v hR
      have hmu : mu T (D.set i (m : Int)) < mu T D := by
        unfold mu
        rw [dOf_set _ _ _ hDl]
        refine sum_lt (i := i) (fun v hv => ?_) hiT ?_
        · unfold upd
          by_cases e : v = i
          · rw [if_pos e, e]; omega
          · rw [if_neg e]; exact Nat.le_refl _
        · rw [upd_same]; exact hlt
      obtain ⟨D', more', e2, s2, n2, m2, b2, c2⟩ := ih (A ++ [i]) (D.set i (m : Int)) true (by rw [hA]; simp) hs2 (by rw [dOf_set _ _ _ hDl]; simpa using hstep)
      refine ⟨D', more', ?_, s2, n2, by omega, fun _ => Or.inr (by omega), fun h => ?_⟩
      · simp only [List.map_cons, passF]
        rw [if_pos ⟨by omega, by have := s.len; omega, by simpa [rdL] using tb.pb i⟩, e]
        simp only [Option.bind_some]
        rw [rd_nat, hDi, if_neg (by omega), Int.toNat_natCast]
        exact e2
      · exact absurd (c2 h).1 (by decide)
/-- The end: each place's chain goes on by what all its places ahead have in common. -/
def Fin (o : Ord next T) (D : List Int) : Prop := S2 o D ∧ ∀ i, i ∈ T → Meets (dOf D) (pre next) (Rch next) i (dOf D i)
theorem rounds_next (o : Ord next T) (hn : 0 < next.length) {T1 : List Int} {P1 : List (List Int)} (tb : Tabs next T T1 P1) {K : Nat} (hK : 2 * T.length + 2 < K) : ∀ (R : Nat) (D : List Int), S2 o D →
    (∀ i, Rch next i → i ≠ 0 → ∀ x, (∀ p, pre next p i → C (dOf D) x p) → C (dOf D) x (dOf D i)) → mu T D < R → ∃ Df, roundsF K T1 P1 (T.map fun v : Nat => (v : Int)) R D = some Df ∧ Fin o Df := by
  intro R
  induction R with
  | zero => intro D _ _ h; omega
  | succ R ih =>
    intro D s c0 hR
    have n0 : Nxt (at_ T) (par o) (Rch next) (pre next) (dOf D) (dOf D) (([] : List Nat).length + 1) := by
      refine ⟨fun x j _ h => h, fun i hi h0 hl => ?_, fun i hi h0 hl => ?_, fun i _ _ => rfl⟩
      · exact absurd (at_inj o hi (.root hn) (by rw [at_0]; simp at hl; exact hl)) h0
      · exact absurd (at_inj o hi (.root hn) (by rw [at_0]; simp at hl; exact hl)) h0
    obtain ⟨D', more', e, s2, n2, m2, b2, c2⟩ := pass_next o hn tb hK s c0 T [] D false rfl s n0
    simp only [roundsF, e, Option.bind_some]
    cases more' with
    | false =>
      obtain ⟨_, rfl, h3⟩ := c2 rfl
      exact ⟨D', by simp, s, h3⟩
    | true =>
      have hlt := (b2 rfl).resolve_left (by decide)
      simp only [if_true]
      exact ih D' s2 (fun i hi h0 x hx => n2.c i hi h0 (at_lt o hi) x hx) (by omega)
theorem S1_0 (o : Ord next T) (hn : 0 < next.length) : S1 o [] ((List.replicate next.length (-1)).set 0 0) := by
  have hl : 0 < (List.replicate next.length (-1 : Int)).length := by simpa using hn
  have hd0 : dOf ((List.replicate next.length (-1 : Int)).set 0 0) 0 = 0 := by
    unfold dOf; rw [getD_set_ _ _ _ _ hl, if_pos rfl]; rfl
  have honly : ∀ j, (Rch next j ∧ at_ T j < ([] : List Nat).length + 1) → j = 0 := fun j h => at_inj o h.1 (.root hn) (by rw [at_0]; have := h.2; simp at this; exact this)
  refine ⟨by simp, fun v hv hA => ?_, fun v hv => ?_, ⟨⟨hd0, ⟨.root hn, by rw [at_0]; simp⟩, fun j hj => ?_, fun j hj h0 => absurd (honly j hj) h0⟩, fun j hj => hj.1, fun x j hj hx => ?_, fun x j hj hx => ?_⟩, ⟨fun i hi h0 hl => absurd (honly i ⟨hi, hl⟩) h0, fun i hi h0 hl => absurd (honly i ⟨hi, hl⟩) h0⟩⟩
  · rw [getD_set_ _ _ _ _ hl, if_neg (by rintro rfl; exact hA List.mem_cons_self)]
    simp [List.getD_eq_getElem?_getD, hv]
  · rw [List.mem_singleton] at hv
    subst hv
    rw [getD_set_ _ _ _ _ hl, if_pos rfl]
    exact Int.le_refl _
  · have := honly j hj
    subst this
    rw [hd0]
    exact hj
  · have := honly j hj
    subst this
    rw [hx.root hd0]
    exact .refl _
  · have := honly j hj
    subst this
    by_cases e : x = 0
    · subst e; exact .refl _
    · exact absurd (.root (Ne.symm e)) hx
theorem S1.S2 (o : Ord next T) {D : List Int} (s : S1 o T D) : S2 o D := by
  have e : (fun j => Rch next j ∧ at_ T j < T.length + 1) = Rch next := by
    funext j
    exact propext ⟨fun h => h.1, fun h => ⟨h, at_lt o h⟩⟩
  refine ⟨s.len, fun v hv hR => s.un v hv (fun h => hR ((o.mem v).mp h)), fun v hR => s.pos v ((o.mem v).mpr hR), ?_⟩
  have := s.inv
  rw [e] at this
  exact this
theorem mu_le (o : Ord next T) {D : List Int} (s : S2 o D) : mu T D ≤ T.length * (T.length + 1) := by
  have h : ∀ L : List Nat, (∀ v, v ∈ L → at_ T (dOf D v) ≤ T.length + 1) → (L.map fun v => at_ T (dOf D v)).sum ≤ L.length * (T.length + 1) := by
    intro L
    induction L with
    | nil => intro _; exact Nat.zero_le _
    | cons a L ih =>
      intro h
      simp only [List.map_cons, List.sum_cons, List.length_cons]
      have h1 := h a List.mem_cons_self
      have h2 := ih fun v hv => h v (List.mem_cons_of_mem _ hv)
      rw [Nat.add_one_mul]
      omega
  exact h T fun v hv => Nat.le_of_lt (at_lt o (s.inv.ch.dp v ((o.mem v).mp (List.mem_cons_of_mem _ hv))))
theorem rounds_all (o : Ord next T) (hn : 0 < next.length) {T1 : List Int} {P1 : List (List Int)} (tb : Tabs next T T1 P1) {K R : Nat} (hK : 2 * T.length + 2 < K) (hR : T.length * (T.length + 1) + 1 < R) :
    ∃ Df, roundsF K T1 P1 (T.map fun v : Nat => (v : Int)) R ((List.replicate next.length (-1)).set 0 0) = some Df ∧ Fin o Df := by
  obtain ⟨R, rfl⟩ : ∃ q, R = q + 1 := ⟨R - 1, by omega⟩
  obtain ⟨D', more', e, s, h⟩ := pass_first o hn tb hK T [] _ false rfl (S1_0 o hn)
  simp only [roundsF, e, Option.bind_some]
  have s2 := s.S2 o
  cases more' with
  | false =>
    obtain ⟨hT, _⟩ := h rfl
    exact ⟨D', by simp, s2, fun i hi => by rw [hT] at hi; cases hi⟩
  | true =>
    simp only [if_true]
    refine rounds_next o hn tb hK R D' s2 (fun i hi h0 x hx => s.fst.c i hi h0 (at_lt o hi) x fun p hp _ => hx p hp) ?_
    have := mu_le o s2
    omega
/-- x is on every way to v. -/
def Dm (next : List (List Int)) (x v : Nat) : Prop := Rch next v ∧ ¬ Av (pre next) x v
theorem fin_dom (o : Ord next T) (hn : 0 < next.length) {D : List Int} (f : Fin o D) (x v : Nat) (hv : Rch next v) : C (dOf D) x v ↔ Dm next x v := by
  constructor
  · intro hc
    refine ⟨hv, fun ha => dom_of_chain f.1.inv.ch.d0 (fun j h0 p hp x hx => ?_) ha hc⟩
    have hj : j ∈ T := by
      rcases List.mem_cons.mp ((o.mem j).mpr (pre_R hp)) with h | h
      · exact absurd h h0
      · exact h
    exact (f.2 j hj x).mp hx p hp hp.1
  · exact fun h => f.1.inv.i x v hv h.2
end
theorem order_some (next : List (List Int)) (sm : Small next) (hn : 0 < next.length) : ∃ T, Ord next T ∧ dom_Order.f next = some ((0 :: T).map fun v : Nat => (v : Int)) := by
  obtain ⟨T, e, h1, h2, h3⟩ := orderF_spec next hn
  have o : Ord next T := ⟨h1, h2, h3⟩
  refine ⟨T, o, ?_⟩
  have hTl : (0 :: T).length ≤ next.length := nodup_len _ _ o.nd fun v hv => Rch.lt ((o.mem v).mp hv)
  have hl := sm.1
  unfold dom_Order.f
  have hall : (next.all fun l => decide (l.length < 4611686018427387904)) = true := by
    apply List.all_eq_true.mpr
    intro l hl
    obtain ⟨i, hi, rfl⟩ := List.getElem_of_mem hl
    have := sm.2 i
    simp only [List.getD_eq_getElem?_getD, List.getElem?_eq_getElem hi, Option.getD_some] at this
    exact decide_eq_true (by omega)
  rw [if_pos ⟨by omega, hall⟩, e]
  simp only [Option.bind_some]
  rw [if_pos (by simp only [List.length_map]; omega)]
/-- What dom.Idom answers. -/
theorem idom_some (next : List (List Int)) (sm : Small next) (hn : 0 < next.length) : ∃ (K : Nat) (D : List Int), (∀ k, K ≤ k → dom_Idom.f k next = some D) ∧ D.length = next.length ∧
    (∀ v, v < next.length → (¬ Rch next v ∨ v = 0) → D.getD v 0 = -1) ∧ ∀ v, Rch next v → v ≠ 0 → ∃ m : Nat, D.getD v 0 = (m : Int) ∧ Rch next m ∧ m ≠ v ∧ ∀ x, Dm next x m ↔ Dm next x v ∧ x ≠ v := by
  obtain ⟨T, o, e⟩ := order_some next sm hn
  have hTl : (0 :: T).length ≤ next.length := nodup_len _ _ o.nd fun v hv => Rch.lt ((o.mem v).mp hv)
  have hl := sm.1
  obtain ⟨T1, P1, e1, tb⟩ := outerP_spec o sm (0 :: T) [] (List.replicate next.length (-1)) (List.replicate next.length []) rfl (by simp) (by simp) (by simp) (fun j hj p => by simp [List.getD_eq_getElem?_getD, hj]) (fun j => by
    by_cases hj : j < next.length <;> simp [List.getD_eq_getElem?_getD, hj])
  have hK : ∀ k, T.length * (T.length + 1) + 2 * T.length + 4 ≤ k → ∃ Df, roundsF k T1 P1 (T.map fun v : Nat => (v : Int)) k ((List.replicate next.length (-1)).set 0 0) = some Df ∧ Fin o Df := fun k hk => by
    generalize hq : T.length * (T.length + 1) = q at hk
    exact rounds_all o hn tb (by omega) (by rw [hq]; omega)
  generalize hq : T.length * (T.length + 1) + 2 * T.length + 4 = K0 at hK
  obtain ⟨Df, e2, f⟩ := hK K0 (Nat.le_refl _)
  have hf : ∀ k, idomF k next ((0 :: T).map fun v : Nat => (v : Int)) = (roundsF k T1 P1 (T.map fun v : Nat => (v : Int)) k ((List.replicate next.length (-1)).set 0 0)).map fun D => D.set 0 (-1) := by
    intro k
    unfold idomF
    rw [if_neg (by simp)]
    simp only [List.length_nil] at e1
    rw [e1]
    rfl
  have h1 : dom_Idom.f K0 next = some (Df.set 0 (-1)) := by
    unfold dom_Idom.f
    rw [if_pos (by omega), e]
    simp only [Option.bind_some]
    rw [hf, e2]
    rfl
  refine ⟨K0, Df.set 0 (-1), fun k hk => at_rounds (fun k => dom_Idom.mono next k) hk h1, by rw [List.length_set]; exact f.1.len, fun v hv h => ?_, fun v hv h0 => ?_⟩
  · rw [getD_set_ _ _ _ _ (by rw [f.1.len]; exact hn)]
    by_cases h0 : v = 0
    · rw [if_pos h0]
    · rw [if_neg h0]
      exact f.1.un v hv (h.resolve_right h0)
  · rw [getD_set_ _ _ _ _ (by rw [f.1.len]; exact hn), if_neg h0]
    have hm := f.1.inv.ch.dp v hv
    have hlt := f.1.inv.ch.lt v hv h0
    refine ⟨dOf Df v, by have := f.1.pos v hv; unfold dOf; omega, hm, fun e => by rw [e] at hlt; omega, fun x => ?_⟩
    rw [← fin_dom o hn f x _ hm, ← fin_dom o hn f x v hv]
    constructor
    · intro h
      refine ⟨.step h, ?_⟩
      rintro rfl
      rcases h.le f.1.inv.ch hm with e | e
      · rw [← e] at hlt; omega
      · omega
    · rintro ⟨h, hne⟩
      exact h.inv.resolve_left hne
end Go.Proofs.Ytfiffhcpgojkhaa.DomP
