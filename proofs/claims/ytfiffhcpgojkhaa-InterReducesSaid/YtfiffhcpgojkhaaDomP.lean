/- What dom.Idom answers: each place's nearest dominator; plain. No condition but that the graph is small. -/
import Derived.Test.YtfiffhcpgojkhaaDomE
import Derived.Test.YtfiffhcpgojkhaaDomT
namespace Go.Proofs.Ytfiffhcpgojkhaa.DomP
open Go.Proofs.Ytfiffhcpgojkhaa Go.Proofs.Ytfiffhcpgojkhaa.DomA Go.Proofs.Ytfiffhcpgojkhaa.DomF Go.Proofs.Ytfiffhcpgojkhaa.DomT Go.RowKit Go.Proofs.YtfiffhcpgojkhaaW.PrintWords
set_option linter.unusedSimpArgs false
set_option linter.unusedVariables false
theorem nodup_len : ∀ (n : Nat) (L : List Nat), L.Nodup → (∀ v, v ∈ L → v < n) → L.length ≤ n := by
  intro n
  induction n with
  | zero =>
    intro L _ h
    cases L with
    | nil => exact Nat.le_refl _
    | cons a L => exact absurd (h a List.mem_cons_self) (by omega)
  | succ n ih =>
    intro L hn h
    by_cases hm : n ∈ L
    · have h1 : (L.erase n).Nodup := hn.erase _
      have h2 := ih (L.erase n) h1 (fun v hv => by
        have h3 := h v (List.mem_of_mem_erase hv)
        have h4 : v ≠ n := fun e => by subst e; exact (List.Nodup.mem_erase_iff hn).mp hv |>.1 rfl
        omega)
      rw [List.length_erase_of_mem hm] at h2
      omega
    · have := ih L hn (fun v hv => by
        have h3 := h v hv
        have h4 : v ≠ n := fun e => hm (e ▸ hv)
        omega)
      omega
/-- Few places, few ways. -/
def Small (next : List (List Int)) : Prop := next.length ≤ 1000 ∧ ∀ i, (next.getD i []).length ≤ 1000
def pre (next : List (List Int)) (p j : Nat) : Prop := Rch next p ∧ E next p j
theorem Rch.lt {next : List (List Int)} {v : Nat} (h : Rch next v) : v < next.length := by
  cases h with
  | root h => exact h
  | step _ h => exact h.2
/-- The order as places. -/
structure Ord (next : List (List Int)) (T : List Nat) : Prop where
  nd : (0 :: T).Nodup
  mem : ∀ v, v ∈ 0 :: T ↔ Rch next v
  par : ∀ A v B, T = A ++ v :: B → ∃ u, u ∈ 0 :: A ∧ E next u v
section
variable {next : List (List Int)} {T : List Nat}
def at_ (T : List Nat) (v : Nat) : Nat := (0 :: T).idxOf v
theorem at_lt (o : Ord next T) {v : Nat} (h : Rch next v) : at_ T v < T.length + 1 := by
  have := List.idxOf_lt_length_of_mem ((o.mem v).mpr h)
  simpa [at_] using this
theorem at_inj (o : Ord next T) {u v : Nat} (hu : Rch next u) (hv : Rch next v) (h : at_ T u = at_ T v) : u = v := by
  have h1 := List.getElem_idxOf (List.idxOf_lt_length_of_mem ((o.mem u).mpr hu))
  have h2 := List.getElem_idxOf (List.idxOf_lt_length_of_mem ((o.mem v).mpr hv))
  unfold at_ at h
  rw [← h1, ← h2]
  simp only [h]
theorem at_0 : at_ T 0 = 0 := by simp [at_]
theorem at_mid (o : Ord next T) {A B : List Nat} {v : Nat} (h : T = A ++ v :: B) : at_ T v = A.length + 1 := by
  have hnd := o.nd
  rw [h] at hnd
  have h0 : v ≠ 0 := by
    rintro rfl
    simp at hnd
  have hA : v ∉ A := by
    intro hm
    have h2 := (List.nodup_cons.mp hnd).2
    exact (List.nodup_append.mp h2).2.2 v hm v List.mem_cons_self rfl
  unfold at_
  rw [h, List.idxOf_cons, show (0 == v) = false from beq_eq_false_iff_ne.mpr (Ne.symm h0)]
  simp only [cond_false]
  rw [List.idxOf_append, if_neg hA, List.idxOf_cons_self]
  omega
theorem at_before (o : Ord next T) {A B : List Nat} {v u : Nat} (h : T = A ++ v :: B) (hu : Rch next u) : at_ T u < at_ T v ↔ u ∈ 0 :: A := by
  rw [at_mid o h]
  constructor
  · intro hl
    have h1 := List.getElem_idxOf (List.idxOf_lt_length_of_mem ((o.mem u).mpr hu))
    unfold at_ at hl
    have key : ∀ (q : Nat) (hq : q < (0 :: T).length), q < A.length + 1 → (0 :: T)[q] ∈ 0 :: A := by
      subst h
      intro q hq hl
      have : (0 :: (A ++ v :: B))[q] = (0 :: A)[q]'(by simpa using hl) := @List.getElem_append_left _ q (0 :: A) (v :: B) (by simpa using hl) (by simpa using hq)
      rw [this]
      exact List.getElem_mem _
    have h2 := key _ (List.idxOf_lt_length_of_mem ((o.mem u).mpr hu)) hl
    rw [h1] at h2
    exact h2
  · intro hm
    unfold at_
    rw [h, show (0 :: (A ++ v :: B)) = (0 :: A) ++ v :: B from rfl, List.idxOf_append, if_pos hm]
    have := List.idxOf_lt_length_of_mem hm
    simpa using this
theorem exists_par (o : Ord next T) (v : Nat) : ∃ u, (Rch next v → Rch next u ∧ (v ≠ 0 → at_ T u < at_ T v ∧ pre next u v)) ∧ (v = 0 → u = 0) := by
  by_cases hv : v ∈ T
  · obtain ⟨A, B, hT⟩ := List.append_of_mem hv
    obtain ⟨u, hu, hE⟩ := o.par A v B hT
    have hR : Rch next u := (o.mem u).mp (by
      rw [hT]
      rcases List.mem_cons.mp hu with h | h
      · subst h; exact List.mem_cons_self
      · exact List.mem_cons_of_mem _ (List.mem_append_left _ h))
    refine ⟨u, fun _ => ⟨hR, fun _ => ⟨(at_before o hT hR).mpr hu, hR, hE⟩⟩, ?_⟩
    rintro rfl
    have := o.nd
    simp [hv] at this
  · refine ⟨0, fun h => ?_, fun _ => rfl⟩
    have h2 := (o.mem v).mpr h
    rcases List.mem_cons.mp h2 with h3 | h3
    · subst h3; exact ⟨h, fun h => absurd rfl h⟩
    · exact absurd h3 hv
noncomputable def par (o : Ord next T) (v : Nat) : Nat := (exists_par o v).choose
theorem gr (o : Ord next T) (hn : 0 < next.length) : Gr (at_ T) (par o) (Rch next) (pre next) where
  r0 := .root hn
  p0 := (exists_par o 0).choose_spec.2 rfl
  parR := fun j h => ((exists_par o j).choose_spec.1 h).1
  parL := fun j h h0 => (((exists_par o j).choose_spec.1 h).2 h0).1
  parE := fun j h h0 => (((exists_par o j).choose_spec.1 h).2 h0).2
  preR := fun p j h => h.1
/-- Lists of numbers as functions. -/
def dOf (D : List Int) (v : Nat) : Nat := (D.getD v 0).toNat
theorem rd_nat (D : List Int) (v : Nat) : rd D (v : Int) = D.getD v 0 := by simp [rd]
theorem dOf_set (D : List Int) (i m : Nat) (hi : i < D.length) : dOf (D.set i (m : Int)) = upd (dOf D) i m := by
  funext v
  unfold dOf upd
  rw [getD_set_ _ _ _ _ hi]
  by_cases h : v = i
  · rw [if_pos h, if_pos h]; omega
  · rw [if_neg h, if_neg h]
/-- What the tables hold. -/
structure Tabs (next : List (List Int)) (T : List Nat) (T1 : List Int) (P1 : List (List Int)) : Prop where
  tl : T1.length = next.length
  ta : ∀ v, Rch next v → T1.getD v 0 = (at_ T v : Int)
  pm : ∀ j, j < next.length → ∀ p : Int, p ∈ P1.getD j [] ↔ ∃ u : Nat, p = (u : Int) ∧ pre next u j
  pb : ∀ j, (P1.getD j []).length < 4611686018427387904
theorem meetF_spec (o : Ord next T) {T1 : List Int} {P1 : List (List Int)} (tb : Tabs next T T1 P1) {D : List Int} (hD : D.length = next.length) {pr : Nat → Prop} (hpr : ∀ v, pr v → Rch next v ∧ 0 ≤ D.getD v 0) (hc : Ch (at_ T) pr (dOf D)) :
    ∀ K (a b : Nat), pr a → pr b → at_ T a + at_ T b < K → ∃ m : Nat, meetF T1 D K (a : Int) (b : Int) = some (m : Int) ∧ pr m ∧ ∀ x, C (dOf D) x m ↔ C (dOf D) x a ∧ C (dOf D) x b := by
  intro K
  induction K with
  | zero => intro a b _ _ h; omega
  | succ K ih =>
    intro a b ha hb hK
    have hla := Rch.lt (hpr a ha).1
    have hlb := Rch.lt (hpr b hb).1
    have ea := tb.ta a (hpr a ha).1
    have eb := tb.ta b (hpr b hb).1
    have tl := tb.tl
    simp only [meetF]
    by_cases hab : a = b
    · subst hab
      rw [if_pos rfl]
      exact ⟨a, rfl, ha, fun x => ⟨fun h => ⟨h, h⟩, fun h => h.1⟩⟩
    · rw [if_neg (by omega), if_pos ⟨by omega, by omega, by omega, by omega, by omega, by omega⟩]
      rw [rd_nat, rd_nat, rd_nat, rd_nat, ea, eb]
      have ea2 : D.getD a 0 = ((dOf D a : Nat) : Int) := by have := (hpr a ha).2; unfold dOf; omega
      have eb2 : D.getD b 0 = ((dOf D b : Nat) : Int) := by have := (hpr b hb).2; unfold dOf; omega
      by_cases hl : at_ T b < at_ T a
      · rw [if_pos (by omega), ea2]
        have h0 : a ≠ 0 := by rintro rfl; rw [at_0] at hl; omega
        have hlt := hc.lt a ha h0
        obtain ⟨m, e, h1, h2⟩ := ih (dOf D a) b (hc.dp a ha) hb (by omega)
        exact ⟨m, e, h1, fun x => (h2 x).trans (meet_step hc hb hl).symm⟩
      · rw [if_neg (by omega), eb2]
        have hne : at_ T a ≠ at_ T b := fun h => hab (at_inj o (hpr a ha).1 (hpr b hb).1 h)
        have h0 : b ≠ 0 := by rintro rfl; rw [at_0] at hne hl; omega
        have hlt := hc.lt b hb h0
        obtain ⟨m, e, h1, h2⟩ := ih a (dOf D b) ha (hc.dp b hb) (by omega)
        refine ⟨m, e, h1, fun x => (h2 x).trans ?_⟩
        have h3 := meet_step (x := x) hc ha (a := b) (b := a) (by omega)
        exact ⟨fun h => (h3.mpr ⟨h.2, h.1⟩).symm, fun h => (h3.mp ⟨h.2, h.1⟩).symm⟩
theorem bestF_spec (o : Ord next T) {T1 : List Int} {P1 : List (List Int)} (tb : Tabs next T T1 P1) {D : List Int} (hD : D.length = next.length) {pr : Nat → Prop} (hpr : ∀ v, pr v ↔ Rch next v ∧ 0 ≤ D.getD v 0) (hc : Ch (at_ T) pr (dOf D)) {K : Nat} (hK : 2 * T.length + 2 < K) :
    ∀ (ps : List Int), (∀ p, p ∈ ps → ∃ u : Nat, p = (u : Int) ∧ Rch next u) → ∀ b : Int, (b = -1 ∨ ∃ m : Nat, b = (m : Int) ∧ pr m) → ∃ b' : Int, bestF K T1 D ps b = some b' ∧
      ((b' = -1 ∧ b = -1 ∧ ∀ u : Nat, (u : Int) ∈ ps → ¬ pr u) ∨ ∃ m' : Nat, b' = (m' : Int) ∧ pr m' ∧ ∀ x, C (dOf D) x m' ↔ (∀ m : Nat, b = (m : Int) → C (dOf D) x m) ∧ ∀ u : Nat, (u : Int) ∈ ps → pr u → C (dOf D) x u) := by
  intro ps
  induction ps with
  | nil =>
    intro _ b hb
    refine ⟨b, rfl, ?_⟩
    rcases hb with rfl | ⟨m, rfl, hm⟩
    · exact Or.inl ⟨rfl, rfl, by simp⟩
    · refine Or.inr ⟨m, rfl, hm, fun x => ⟨fun h => ⟨fun m' e => ?_, by simp⟩, fun h => h.1 m rfl⟩⟩
      have : m = m' := by omega
      rw [← this]; exact h
  | cons p ps ih =>
    intro hps b hb
    obtain ⟨u, rfl, hu⟩ := hps p List.mem_cons_self
    have hps' := fun q h => hps q (List.mem_cons_of_mem _ h)
    have hul := Rch.lt hu
    simp only [bestF]
    rw [if_pos ⟨by omega, by omega⟩, rd_nat]
    by_cases hneg : D.getD u 0 < 0
    · rw [if_pos hneg]
      have hnp : ¬ pr u := fun h => by have := ((hpr u).mp h).2; omega
      obtain ⟨b', e, h⟩ := ih hps' b hb
      refine ⟨b', e, ?_⟩
      rcases h with ⟨h1, h2, h3⟩ | ⟨m', h1, h2, h3⟩
      · refine Or.inl ⟨h1, h2, fun v hv => ?_⟩
        rcases List.mem_cons.mp hv with hv | hv
        · have : v = u := by omega
          rw [this]; exact hnp
        · exact h3 v hv
      · refine Or.inr ⟨m', h1, h2, fun x => (h3 x).trans ⟨fun h => ⟨h.1, fun v hv hp => ?_⟩, fun h => ⟨h.1, fun v hv hp => h.2 v (List.mem_cons_of_mem _ hv) hp⟩⟩⟩
        rcases List.mem_cons.mp hv with hv | hv
        · have : v = u := by omega
          rw [this] at hp; exact absurd hp hnp
        · exact h.2 v hv hp
    · rw [if_neg hneg]
      have hup : pr u := (hpr u).mpr ⟨hu, by omega⟩
      rcases hb with rfl | ⟨m, rfl, hm⟩
      · rw [if_pos (by omega)]
        obtain ⟨b', e, h⟩ := ih hps' (u : Int) (Or.inr ⟨u, rfl, hup⟩)
        refine ⟨b', e, ?_⟩
        rcases h with ⟨_, h2, _⟩ | ⟨m', h1, h2, h3⟩
        · omega
        · refine Or.inr ⟨m', h1, h2, fun x => (h3 x).trans ⟨fun h => ⟨fun m e => by omega, fun v hv hp => ?_⟩, fun h => ⟨fun m e => ?_, fun v hv hp => h.2 v (List.mem_cons_of_mem _ hv) hp⟩⟩⟩
          · rcases List.mem_cons.mp hv with hv | hv
            · have : v = u := by omega
              rw [this]; exact h.1 u rfl
            · exact h.2 v hv hp
          · have : m = u := by omega
            rw [this]; exact h.2 u List.mem_cons_self hup
      · rw [if_neg (by omega)]
        have hl1 := at_lt o hu
        have hl2 := at_lt o ((hpr m).mp hm).1
        obtain ⟨q, eq, hq1, hq2⟩ := meetF_spec o tb hD (fun v h => (hpr v).mp h) hc K m u hm hup (by omega)
        rw [eq]
        simp only [Option.bind_some]
        obtain ⟨b', e, h⟩ := ih hps' (q : Int) (Or.inr ⟨q, rfl, hq1⟩)
        refine ⟨b', e, ?_⟩
        rcases h with ⟨_, h2, _⟩ | ⟨m', h1, h2, h3⟩
        · omega
        · refine Or.inr ⟨m', h1, h2, fun x => (h3 x).trans ⟨fun h => ?_, fun h => ⟨fun m2 e2 => ?_, fun v hv hp => h.2 v (List.mem_cons_of_mem _ hv) hp⟩⟩⟩
          · have h4 := (hq2 x).mp (h.1 q rfl)
            refine ⟨fun m2 e2 => ?_, fun v hv hp => ?_⟩
            · have : m2 = m := by omega
              rw [this]; exact h4.1
            · rcases List.mem_cons.mp hv with hv | hv
              · have : v = u := by omega
                rw [this]; exact h4.2
              · exact h.2 v hv hp
          · have : m2 = q := by omega
            rw [this]
            exact (hq2 x).mpr ⟨h.1 m rfl, h.2 u List.mem_cons_self hup⟩
end
end Go.Proofs.Ytfiffhcpgojkhaa.DomP
