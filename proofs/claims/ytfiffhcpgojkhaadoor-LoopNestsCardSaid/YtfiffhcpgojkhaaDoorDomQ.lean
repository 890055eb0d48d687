/- Nearest dominators by rounds over an order, in plain words: what is kept at each step, and that the rounds end. No condition. -/
import Derived.Test.YtfiffhcpgojkhaaDoorDomE
namespace Go.Proofs.YtfiffhcpgojkhaaDoor.DomT
set_option linter.unusedVariables false
/-- a is on the chain of b: one comes to it from b by d. -/
inductive C (d : Nat → Nat) : Nat → Nat → Prop
  | refl (a : Nat) : C d a a
  | step {a b : Nat} : C d a (d b) → C d a b
variable {d d' par at_ : Nat → Nat} {pr : Nat → Prop} {a b c x i j m : Nat}
theorem C.inv (h : C d a b) : a = b ∨ C d a (d b) := by
  cases h with
  | refl => exact Or.inl rfl
  | step h => exact Or.inr h
theorem C.trans (h : C d a b) (h2 : C d b c) : C d a c := by
  induction h2 with
  | refl => exact h
  | step _ ih => exact .step ih
theorem C.lin (h : C d a c) (h2 : C d b c) : C d a b ∨ C d b a := by
  induction h with
  | refl => exact Or.inr h2
  | step h1 ih =>
    rcases h2.inv with rfl | h3
    · exact Or.inl (.step h1)
    · exact ih h3
/-- A chain goes down to the root. -/
structure Ch (at_ : Nat → Nat) (pr : Nat → Prop) (d : Nat → Nat) : Prop where
  d0 : d 0 = 0
  p0 : pr 0
  dp : ∀ j, pr j → pr (d j)
  lt : ∀ j, pr j → j ≠ 0 → at_ (d j) < at_ j
theorem C.prd (hc : Ch at_ pr d) (h : C d a b) (hb : pr b) : pr a := by
  induction h with
  | refl => exact hb
  | step _ ih => exact ih (hc.dp _ hb)
theorem C.le (hc : Ch at_ pr d) (h : C d a b) (hb : pr b) : a = b ∨ at_ a < at_ b := by
  induction h with
  | refl => exact Or.inl rfl
  | @step b h1 ih =>
    by_cases h0 : b = 0
    · subst h0; rw [hc.d0] at ih; exact ih hb
    · have := hc.lt _ hb h0
      rcases ih (hc.dp _ hb) with h | h
      · right; rw [h]; exact this
      · right; omega
theorem C.root (h0 : d 0 = 0) (h : C d a 0) : a = 0 := by
  have key : ∀ b, C d a b → b = 0 → a = 0 := by
    intro b h
    induction h with
    | refl => exact id
    | step _ ih => intro e; subst e; exact ih h0
  exact key 0 h rfl
theorem C.of_le (hc : Ch at_ pr d) (ha : C d a c) (hb : C d b c) (hp : pr c) (hl : at_ a ≤ at_ b) : C d a b := by
  rcases ha.lin hb with h | h
  · exact h
  · rcases h.le hc (ha.prd hc hp) with h | h
    · subst h; exact .refl _
    · omega
theorem C.to_root (hc : Ch at_ pr d) : ∀ n, ∀ b, at_ b ≤ n → pr b → C d 0 b := by
  intro n
  induction n with
  | zero =>
    intro b hb hp
    by_cases h0 : b = 0
    · subst h0; exact .refl _
    · have := hc.lt b hp h0; omega
  | succ n ih =>
    intro b hb hp
    by_cases h0 : b = 0
    · subst h0; exact .refl _
    · have := hc.lt b hp h0; exact .step (ih _ (by omega) (hc.dp _ hp))
/-- Where two chains meet: the step. -/
theorem meet_step (hc : Ch at_ pr d) (hb : pr b) (hl : at_ b < at_ a) : (C d x a ∧ C d x b) ↔ (C d x (d a) ∧ C d x b) := by
  constructor
  · rintro ⟨h1, h2⟩
    rcases h1.inv with rfl | h
    · rcases h2.le hc hb with h | h
      · subst h; omega
      · omega
    · exact ⟨h, h2⟩
  · rintro ⟨h1, h2⟩; exact ⟨.step h1, h2⟩
def upd (d : Nat → Nat) (i m : Nat) : Nat → Nat := fun j => if j = i then m else d j
theorem upd_same : upd d i m i = m := by simp [upd]
theorem upd_ne (h : j ≠ i) : upd d i m j = d j := by simp [upd, h]
theorem C.far (h : ¬ C d i j) : C (upd d i m) x j ↔ C d x j := by
  constructor
  · intro hx
    induction hx with
    | refl => exact .refl _
    | @step j h1 ih =>
      have hj : j ≠ i := fun e => h (e ▸ .refl _)
      rw [upd_ne hj] at ih
      exact .step (ih fun h2 => h (.step h2))
  · intro hx
    induction hx with
    | refl => exact .refl _
    | @step j h1 ih =>
      have hj : j ≠ i := fun e => h (e ▸ .refl _)
      refine .step ?_
      rw [upd_ne hj]
      exact ih fun h2 => h (.step h2)
theorem C.ua (hx : C (upd d i m) x j) : C d x j ∨ (C d i j ∧ C d x m) := by
  induction hx with
  | refl => exact Or.inl (.refl _)
  | @step j h1 ih =>
    by_cases hj : j = i
    · subst hj
      rw [upd_same] at ih
      exact Or.inr ⟨.refl _, ih.elim id (·.2)⟩
    · rw [upd_ne hj] at ih
      rcases ih with h | ⟨h, h2⟩
      · exact Or.inl (.step h)
      · exact Or.inr ⟨.step h, h2⟩
theorem C.ub (hc : Ch at_ pr d) (hi : i ≠ 0) (hm : ¬ C d i m) (hx : C d x j) (hp : pr j) (h : C d i j → at_ x < at_ i → C d x m) : C (upd d i m) x j := by
  induction hx with
  | refl => exact .refl _
  | @step j h1 ih =>
    by_cases hj : j = i
    · subst hj
      refine .step ?_
      rw [upd_same]
      refine (C.far hm).mpr (h (.refl _) ?_)
      have := hc.lt _ hp hi
      rcases h1.le hc (hc.dp _ hp) with e | e
      · rw [e]; exact this
      · omega
    · refine .step ?_
      rw [upd_ne hj]
      exact ih (hc.dp _ hp) fun h2 => h (.step h2)
/-- A graph as it is walked: places in an order, each behind one of those ahead of it. -/
structure Gr (at_ par : Nat → Nat) (R : Nat → Prop) (pre : Nat → Nat → Prop) : Prop where
  r0 : R 0
  p0 : par 0 = 0
  parR : ∀ j, R j → R (par j)
  parL : ∀ j, R j → j ≠ 0 → at_ (par j) < at_ j
  parE : ∀ j, R j → j ≠ 0 → pre (par j) j
  preR : ∀ p j, pre p j → R p
variable {R : Nat → Prop} {pre : Nat → Nat → Prop}
theorem Gr.ch (g : Gr at_ par R pre) : Ch at_ R par := ⟨g.p0, g.r0, g.parR, g.parL⟩
/-- One comes from the root to j without x. -/
inductive Av (pre : Nat → Nat → Prop) (x : Nat) : Nat → Prop
  | root : 0 ≠ x → Av pre x 0
  | step {p j : Nat} : Av pre x p → pre p j → j ≠ x → Av pre x j
theorem dom_pre (h : ¬ Av pre x j) (hj : j ≠ x) {p : Nat} (hp : pre p j) : ¬ Av pre x p := fun ha => h (.step ha hp hj)
/-- What is kept at each step. -/
structure Inv (at_ par : Nat → Nat) (R : Nat → Prop) (pre : Nat → Nat → Prop) (pr : Nat → Prop) (d : Nat → Nat) : Prop where
  ch : Ch at_ pr d
  prR : ∀ j, pr j → R j
  q : ∀ x j, pr j → C d x j → C par x j
  i : ∀ x j, pr j → ¬ Av pre x j → C d x j
theorem dom_par (g : Gr at_ par R pre) (hi : R i) (hj : R j) (h : C par i j) (hx : at_ x < at_ i) (hd : ¬ Av pre x j) : ¬ Av pre x i := by
  induction h with
  | refl => exact hd
  | @step j h1 ih =>
    by_cases h0 : j = 0
    · subst h0; rw [g.p0] at ih; exact ih hj hd
    · have hne : j ≠ x := by
        rintro rfl
        rcases (C.step h1).le g.ch hj with e | e
        · subst e; omega
        · omega
      exact ih (g.parR _ hj) (dom_pre hd hne (g.parE _ hj h0))
/-- The new place's chain is what all its places ahead have in common. -/
def Meets (d : Nat → Nat) (pre : Nat → Nat → Prop) (pr : Nat → Prop) (i m : Nat) : Prop := ∀ x, C d x m ↔ ∀ p, pre p i → pr p → C d x p
theorem Inv.lt (g : Gr at_ par R pre) (v : Inv at_ par R pre pr d) (hi : i ≠ 0) (hR : R i) (hp : pr (par i)) (hm : Meets d pre pr i m) : C d m (par i) ∧ pr m ∧ at_ m < at_ i ∧ ¬ C d i m := by
  have h1 : C d m (par i) := (hm m).mp (.refl _) _ (g.parE _ hR hi) hp
  have h2 := h1.prd v.ch hp
  have h3 := g.parL _ hR hi
  have h4 : at_ m < at_ i := by
    rcases h1.le v.ch hp with e | e
    · rw [e]; exact h3
    · omega
  refine ⟨h1, h2, h4, fun h => ?_⟩
  rcases h.le v.ch h2 with e | e
  · subst e; omega
  · omega
theorem Inv.step (g : Gr at_ par R pre) (v : Inv at_ par R pre pr d) (hi : i ≠ 0) (hR : R i) (hp : pr (par i)) (hm : Meets d pre pr i m) :
    Inv at_ par R pre (fun j => pr j ∨ j = i) (upd d i m) := by
  obtain ⟨h1, h2, h3, h4⟩ := v.lt g hi hR hp hm
  have hd : ∀ x, ¬ Av pre x i → x ≠ i → C d x m := fun x hx hne => (hm x).mpr fun p hpi hpp => v.i x p hpp (dom_pre hx (Ne.symm hne) hpi)
  refine ⟨⟨?_, Or.inl v.ch.p0, ?_, ?_⟩, ?_, ?_, ?_⟩
  · rw [upd_ne (Ne.symm hi)]; exact v.ch.d0
  · intro j hj
    by_cases e : j = i
    · subst e; rw [upd_same]; exact Or.inl h2
    · rw [upd_ne e]; exact Or.inl (v.ch.dp _ (hj.resolve_right e))
  · intro j hj h0
    by_cases e : j = i
    · subst e; rw [upd_same]; exact h3
    · rw [upd_ne e]; exact v.ch.lt _ (hj.resolve_right e) h0
  · rintro j (hj | rfl)
    · exact v.prR _ hj
    · exact hR
  · intro x j hj hx
    have key : ∀ x, C d x m → C par x i := fun x hx => .step (v.q _ _ hp (hx.trans h1))
    by_cases e : j = i
    · subst e
      rcases hx.inv with rfl | hx
      · exact .refl _
      · rw [upd_same] at hx
        exact key x ((C.far h4).mp hx)
    · have hj := hj.resolve_right e
      rcases hx.ua with h | ⟨h, h'⟩
      · exact v.q _ _ hj h
      · exact (key x h').trans (v.q _ _ hj h)
  · intro x j hj hx
    by_cases e : j = i
    · subst e
      by_cases e2 : x = j
      · subst e2; exact .refl _
      · refine .step ?_
        rw [upd_same]
        exact (C.far h4).mpr (hd x hx e2)
    · have hj := hj.resolve_right e
      refine C.ub v.ch hi h4 (v.i x j hj hx) hj fun hij hlt => hd x ?_ (by rintro rfl; omega)
      exact dom_par g hR (v.prR _ hj) (v.q _ _ hj hij) hlt hx
/-- At the end a chain is what dominates. -/
theorem dom_of_chain (h0 : d 0 = 0) (hf : ∀ j, j ≠ 0 → ∀ p, pre p j → ∀ x, C d x (d j) → C d x p) (h : Av pre x j) : ¬ C d x j := by
  induction h with
  | root hne => exact fun h => hne (h.root h0).symm
  | @step p j h1 hp hne ih =>
    intro hc
    rcases hc.inv with rfl | hc
    · exact hne rfl
    · by_cases e : j = 0
      · subst e; rw [h0] at hc; exact hne (hc.root h0).symm
      · exact ih (hf j e p hp x hc)
/-- What the first round leaves, up to a place in the order. -/
structure Fst (at_ par : Nat → Nat) (R : Nat → Prop) (pre : Nat → Nat → Prop) (d : Nat → Nat) (k : Nat) : Prop where
  b : ∀ i, R i → i ≠ 0 → at_ i < k → C d (d i) (par i)
  c : ∀ i, R i → i ≠ 0 → at_ i < k → ∀ x, (∀ p, pre p i → at_ p < at_ i → C d x p) → C d x (d i)
/-- What a later round keeps, up to a place in the order. -/
structure Nxt (at_ par : Nat → Nat) (R : Nat → Prop) (pre : Nat → Nat → Prop) (d0 d : Nat → Nat) (k : Nat) : Prop where
  a : ∀ x j, R j → C d x j → C d0 x j
  b : ∀ i, R i → i ≠ 0 → at_ i < k → C d (d i) (par i)
  c : ∀ i, R i → i ≠ 0 → at_ i < k → ∀ x, (∀ p, pre p i → C d x p) → C d x (d i)
  e : ∀ i, R i → k ≤ at_ i → d i = d0 i
theorem same_below (hc : Ch at_ pr d) (hj : pr j) (hl : at_ j < at_ i) : C (upd d i m) x j ↔ C d x j := by
  refine C.far fun h => ?_
  rcases h.le hc hj with e | e
  · subst e; omega
  · omega
theorem Fst.step (g : Gr at_ par R pre) (inj : ∀ i j, R i → R j → at_ i = at_ j → i = j) (v : Inv at_ par R pre (fun j => R j ∧ at_ j < at_ i) d) (f : Fst at_ par R pre d (at_ i)) (hi : i ≠ 0) (hR : R i)
    (hm : Meets d pre (fun j => R j ∧ at_ j < at_ i) i m) : Fst at_ par R pre (upd d i m) (at_ i + 1) := by
  have hp : R (par i) ∧ at_ (par i) < at_ i := ⟨g.parR _ hR, g.parL _ hR hi⟩
  obtain ⟨h1, h2, h3, h4⟩ := v.lt g hi hR hp hm
  refine ⟨fun k hk k0 hl => ?_, fun k hk k0 hl x hx => ?_⟩
  · by_cases e : k = i
    · subst e; rw [upd_same]; exact (same_below v.ch hp hp.2).mpr h1
    · have hl2 : at_ k < at_ i := by
        have : at_ k ≠ at_ i := fun h => e (inj _ _ hk hR h)
        omega
      have hq := g.parL _ hk k0
      rw [upd_ne e]
      exact (same_below v.ch ⟨g.parR _ hk, by omega⟩ (by omega)).mpr (f.b k hk k0 hl2)
  · by_cases e : k = i
    · subst e
      rw [upd_same]
      refine (same_below v.ch h2 h3).mpr ((hm x).mpr fun p hp2 hp3 => (same_below v.ch hp3 hp3.2).mp (hx p hp2 hp3.2))
    · have hl2 : at_ k < at_ i := by
        have : at_ k ≠ at_ i := fun h => e (inj _ _ hk hR h)
        omega
      have hq := v.ch.lt k ⟨hk, hl2⟩ k0
      have hq2 := v.ch.dp k ⟨hk, hl2⟩
      rw [upd_ne e]
      refine (same_below v.ch hq2 hq2.2).mpr (f.c k hk k0 hl2 x fun p hp2 hp3 => ?_)
      have hpR := g.preR _ _ hp2
      exact (same_below v.ch ⟨hpR, by omega⟩ (by omega)).mp (hx p hp2 hp3)
/-- An ancestor of a place, on whose chain a place ahead of it is. -/
theorem anc_chain (g : Gr at_ par R pre) {k y : Nat} (hb : ∀ i, R i → i ≠ 0 → at_ i < k → C d (d i) (par i)) (h : C par y j) (hj : R j) (hk : at_ j < k) (hc : Ch at_ R d) (hx : C d x j) (hl : at_ x ≤ at_ y) (hy : R y) : C d x y := by
  induction h with
  | refl => exact hx
  | @step j h1 ih =>
    by_cases h0 : j = 0
    · subst h0; rw [g.p0] at ih; exact ih hj hk hx
    · have hlt := g.parL _ hj h0
      have hle : at_ y ≤ at_ (par j) := by
        rcases h1.le g.ch (g.parR _ hj) with e | e
        · rw [e]; exact Nat.le_refl _
        · omega
      rcases hx.inv with rfl | hx
      · omega
      · exact ih (g.parR _ hj) (by omega) (hx.trans (hb _ hj h0 hk))
theorem Nxt.best (g : Gr at_ par R pre) {d0 : Nat → Nat} (v0 : Inv at_ par R pre R d0) (c0 : ∀ i, R i → i ≠ 0 → ∀ x, (∀ p, pre p i → C d0 x p) → C d0 x (d0 i)) (v : Inv at_ par R pre R d) (f : Nxt at_ par R pre d0 d (at_ i)) (hi : i ≠ 0) (hR : R i)
    (hm : Meets d pre R i m) : C d m (d i) := by
  have hp := g.parR _ hR
  obtain ⟨h1, h2, h3, h4⟩ := v.lt g hi hR hp hm
  have e := f.e i hR (Nat.le_refl _)
  rw [e]
  have q0 : C d0 m (d0 i) := c0 i hR hi m fun p hp2 => f.a _ _ (g.preR _ _ hp2) ((hm m).mp (.refl _) p hp2 (g.preR _ _ hp2))
  have l0 : at_ m ≤ at_ (d0 i) := by
    rcases q0.le v0.ch (v0.ch.dp _ hR) with e | e
    · rw [e]; exact Nat.le_refl _
    · omega
  have hlt := v0.ch.lt i hR hi
  have t0 : C par (d0 i) (par i) := by
    rcases (v0.q (d0 i) i hR (.step (.refl _))).inv with e | e
    · rw [e] at hlt; omega
    · exact e
  exact anc_chain g f.b t0 hp (g.parL _ hR hi) v.ch h1 l0 (v0.ch.dp _ hR)
theorem Nxt.step (g : Gr at_ par R pre) (inj : ∀ i j, R i → R j → at_ i = at_ j → i = j) {d0 : Nat → Nat} (v0 : Inv at_ par R pre R d0) (c0 : ∀ i, R i → i ≠ 0 → ∀ x, (∀ p, pre p i → C d0 x p) → C d0 x (d0 i)) (v : Inv at_ par R pre R d) (f : Nxt at_ par R pre d0 d (at_ i)) (hi : i ≠ 0) (hR : R i)
    (hm : Meets d pre R i m) : Nxt at_ par R pre d0 (upd d i m) (at_ i + 1) := by
  have hp := g.parR _ hR
  have hb := f.best g v0 c0 v hi hR hm
  obtain ⟨h1, h2, h3, h4⟩ := v.lt g hi hR hp hm
  have ha : ∀ x j, R j → C (upd d i m) x j → C d x j := by
    intro x j hj hx
    rcases hx.ua with h | ⟨h, h'⟩
    · exact h
    · exact (C.step (h'.trans hb)).trans h
  refine ⟨fun x j hj hx => f.a _ _ hj (ha x j hj hx), fun k hk k0 hl => ?_, fun k hk k0 hl x hx => ?_, fun k hk hl => ?_⟩
  · by_cases e : k = i
    · subst e; rw [upd_same]; exact (same_below v.ch hp (g.parL _ hR hi)).mpr h1
    · have hl2 : at_ k < at_ i := by
        have : at_ k ≠ at_ i := fun h => e (inj _ _ hk hR h)
        omega
      have hq := g.parL _ hk k0
      rw [upd_ne e]
      exact (same_below v.ch (g.parR _ hk) (by omega)).mpr (f.b k hk k0 hl2)
  · by_cases e : k = i
    · subst e
      rw [upd_same]
      exact (same_below v.ch h2 h3).mpr ((hm x).mpr fun p hp2 _ => ha _ _ (g.preR _ _ hp2) (hx p hp2))
    · have hl2 : at_ k < at_ i := by
        have : at_ k ≠ at_ i := fun h => e (inj _ _ hk hR h)
        omega
      have hq := v.ch.lt k hk k0
      rw [upd_ne e]
      exact (same_below v.ch (v.ch.dp _ hk) (by omega)).mpr (f.c k hk k0 hl2 x fun p hp2 => ha _ _ (g.preR _ _ hp2) (hx p hp2))
  · have e : k ≠ i := by rintro rfl; omega
    rw [upd_ne e]
    exact f.e k hk (by omega)
end Go.Proofs.YtfiffhcpgojkhaaDoor.DomT
/- Small facts on numbers and lists. No condition. -/
namespace Go.Proofs.YtfiffhcpgojkhaaDoor.PdB
open Go.Proofs.YtfiffhcpgojkhaaDoor Go.Proofs.YtfiffhcpgojkhaaDoor.DomA Go.RowKit Go.Proofs.YtfiffhcpgojkhaaDoorW.PrintWords
set_option linter.unusedSimpArgs false
set_option linter.unusedVariables false
theorem w64_of {x : Int} (h0 : -9223372036854775808 ≤ x) (h1 : x ≤ 9223372036854775807) : wrap64 x = x := by
  unfold wrap64
  omega
theorem wnext (i : Nat) (h : i < 4611686018427387904) : wrap64 ((i : Int) + 1) = ((i + 1 : Nat) : Int) := by rw [w64_of (by omega) (by omega)]; omega
theorem drop_rd (L : List Int) (j : Nat) (h : j < L.length) : L.drop j = rd L (j : Int) :: L.drop (j + 1) := by
  rw [List.drop_eq_getElem_cons h]
  simp [rd, h]
end Go.Proofs.YtfiffhcpgojkhaaDoor.PdB
/- What dom.Idom answers: each place's nearest dominator; plain. No condition but that the graph is small. -/
namespace Go.Proofs.YtfiffhcpgojkhaaDoor.DomP
open Go.Proofs.YtfiffhcpgojkhaaDoor Go.Proofs.YtfiffhcpgojkhaaDoor.DomA Go.Proofs.YtfiffhcpgojkhaaDoor.DomF Go.Proofs.YtfiffhcpgojkhaaDoor.DomT Go.RowKit Go.Proofs.YtfiffhcpgojkhaaDoorW.PrintWords
set_option linter.unusedSimpArgs false
set_option linter.unusedVariables false
theorem nodup_len : ∀ (n : Nat) (L : List Nat), L.Nodup → (∀ v, v ∈ L → v < n) → L.length ≤ n := by
  intro n
  induction n with
  | zero =>
    intro L _ h
    cases L with
    | nil => exact Nat.le_refl _
    | cons a L => exact absurd (h a List.mem_cons_self) (by omega)
  | succ n ih =>
    intro L hn h
    by_cases hm : n ∈ L
    · have h1 : (L.erase n).Nodup := hn.erase _
      have h2 := ih (L.erase n) h1 (fun v hv => by
        have h3 := h v (List.mem_of_mem_erase hv)
        have h4 : v ≠ n := fun e => by subst e; exact (List.Nodup.mem_erase_iff hn).mp hv |>.1 rfl
        omega)
      rw [List.length_erase_of_mem hm] at h2
      omega
    · have := ih L hn (fun v hv => by
        have h3 := h v hv
        have h4 : v ≠ n := fun e => hm (e ▸ hv)
        omega)
      omega
/-- Few places, few ways. -/
def Small (next : List (List Int)) : Prop := next.length ≤ 1000 ∧ ∀ i, (next.getD i []).length ≤ 1000
def pre (next : List (List Int)) (p j : Nat) : Prop := Rch next p ∧ E next p j
theorem Rch.lt {next : List (List Int)} {v : Nat} (h : Rch next v) : v < next.length := by
  cases h with
  | root h => exact h
  | step _ h => exact h.2
/-- The order as places. -/
structure Ord (next : List (List Int)) (T : List Nat) : Prop where
  nd : (0 :: T).Nodup
  mem : ∀ v, v ∈ 0 :: T ↔ Rch next v
  par : ∀ A v B, T = A ++ v :: B → ∃ u, u ∈ 0 :: A ∧ E next u v
section
variable {next : List (List Int)} {T : List Nat}
def at_ (T : List Nat) (v : Nat) : Nat := (0 :: T).idxOf v
theorem at_lt (o : Ord next T) {v : Nat} (h : Rch next v) : at_ T v < T.length + 1 := by
  have := List.idxOf_lt_length_of_mem ((o.mem v).mpr h)
  simpa [at_] using this
theorem at_inj (o : Ord next T) {u v : Nat} (hu : Rch next u) (hv : Rch next v) (h : at_ T u = at_ T v) : u = v := by
  have h1 := List.getElem_idxOf (List.idxOf_lt_length_of_mem ((o.mem u).mpr hu))
  have h2 := List.getElem_idxOf (List.idxOf_lt_length_of_mem ((o.mem v).mpr hv))
  unfold at_ at h
  rw [← h1, ← h2]
  simp only [h]
theorem at_0 : at_ T 0 = 0 := by simp [at_]
theorem at_mid (o : Ord next T) {A B : List Nat} {v : Nat} (h : T = A ++ v :: B) : at_ T v = A.length + 1 := by
  have hnd := o.nd
  rw [h] at hnd
  have h0 : v ≠ 0 := by
    rintro rfl
    simp at hnd
  have hA : v ∉ A := by
    intro hm
    have h2 := (List.nodup_cons.mp hnd).2
    exact (List.nodup_append.mp h2).2.2 v hm v List.mem_cons_self rfl
  unfold at_
  rw [h, List.idxOf_cons, show (0 == v) = false from beq_eq_false_iff_ne.mpr (Ne.symm h0)]
  simp only [cond_false]
  rw [List.idxOf_append, if_neg hA, List.idxOf_cons_self]
  omega
theorem at_before (o : Ord next T) {A B : List Nat} {v u : Nat} (h : T = A ++ v :: B) (hu : Rch next u) : at_ T u < at_ T v ↔ u ∈ 0 :: A := by
  rw [at_mid o h]
  constructor
  · intro hl
    have h1 := List.getElem_idxOf (List.idxOf_lt_length_of_mem ((o.mem u).mpr hu))
    unfold at_ at hl
    have key : ∀ (q : Nat) (hq : q < (0 :: T).length), q < A.length + 1 → (0 :: T)[q] ∈ 0 :: A := by
      subst h
      intro q hq hl
      have : (0 :: (A ++ v :: B))[q] = (0 :: A)[q]'(by simpa using hl) := @List.getElem_append_left _ q (0 :: A) (v :: B) (by simpa using hl) (by simpa using hq)
      rw [this]
      exact List.getElem_mem _
    have h2 := key _ (List.idxOf_lt_length_of_mem ((o.mem u).mpr hu)) hl
    rw [h1] at h2
    exact h2
  · intro hm
    unfold at_
    rw [h, show (0 :: (A ++ v :: B)) = (0 :: A) ++ v :: B from rfl, List.idxOf_append, if_pos hm]
    have := List.idxOf_lt_length_of_mem hm
    simpa using this
theorem exists_par (o : Ord next T) (v : Nat) : ∃ u, (Rch next v → Rch next u ∧ (v ≠ 0 → at_ T u < at_ T v ∧ pre next u v)) ∧ (v = 0 → u = 0) := by
  by_cases hv : v ∈ T
  · obtain ⟨A, B, hT⟩ := List.append_of_mem hv
    obtain ⟨u, hu, hE⟩ := o.par A v B hT
    have hR : Rch next u := (o.mem u).mp (by
      rw [hT]
      rcases List.mem_cons.mp hu with h | h
      · subst h; exact List.mem_cons_self
      · exact List.mem_cons_of_mem _ (List.mem_append_left _ h))
    refine ⟨u, fun _ => ⟨hR, fun _ => ⟨(at_before o hT hR).mpr hu, hR, hE⟩⟩, ?_⟩
    rintro rfl
    have := o.nd
    simp [hv] at this
  · refine ⟨0, fun h => ?_, fun _ => rfl⟩
    have h2 := (o.mem v).mpr h
    rcases List.mem_cons.mp h2 with h3 | h3
    · subst h3; exact ⟨h, fun h => absurd rfl h⟩
    · exact absurd h3 hv
noncomputable def par (o : Ord next T) (v : Nat) : Nat := (exists_par o v).choose
theorem gr (o : Ord next T) (hn : 0 < next.length) : Gr (at_ T) (par o) (Rch next) (pre next) where
  r0 := .root hn
  p0 := (exists_par o 0).choose_spec.2 rfl
  parR := fun j h => ((exists_par o j).choose_spec.1 h).1
  parL := fun j h h0 => (((exists_par o j).choose_spec.1 h).2 h0).1
  parE := fun j h h0 => (((exists_par o j).choose_spec.1 h).2 h0).2
  preR := fun p j h => h.1
/-- Lists of numbers as functions. -/
def dOf (D : List Int) (v : Nat) : Nat := (D.getD v 0).toNat
theorem rd_nat (D : List Int) (v : Nat) : rd D (v : Int) = D.getD v 0 := by simp [rd]
theorem dOf_set (D : List Int) (i m : Nat) (hi : i < D.length) : dOf (D.set i (m : Int)) = upd (dOf D) i m := by
  funext v
  unfold dOf upd
  rw [getD_set_ _ _ _ _ hi]
  by_cases h : v = i
  · rw [if_pos h, if_pos h]; omega
  · rw [if_neg h, if_neg h]
/-- What the tables hold. -/
structure Tabs (next : List (List Int)) (T : List Nat) (T1 : List Int) (P1 : List (List Int)) : Prop where
  tl : T1.length = next.length
  ta : ∀ v, Rch next v → T1.getD v 0 = (at_ T v : Int)
  pm : ∀ j, j < next.length → ∀ p : Int, p ∈ P1.getD j [] ↔ ∃ u : Nat, p = (u : Int) ∧ pre next u j
  pb : ∀ j, (P1.getD j []).length < 4611686018427387904
theorem meetF_spec (o : Ord next T) {T1 : List Int} {P1 : List (List Int)} (tb : Tabs next T T1 P1) {D : List Int} (hD : D.length = next.length) {pr : Nat → Prop} (hpr : ∀ v, pr v → Rch next v ∧ 0 ≤ D.getD v 0) (hc : Ch (at_ T) pr (dOf D)) :
    ∀ K (a b : Nat), pr a → pr b → at_ T a + at_ T b < K → ∃ m : Nat, meetF T1 D K (a : Int) (b : Int) = some (m : Int) ∧ pr m ∧ ∀ x, C (dOf D) x m ↔ C (dOf D) x a ∧ C (dOf D) x b := by
  intro K
  induction K with
  | zero => intro a b _ _ h; omega
  | succ K ih =>
    intro a b ha hb hK
    have hla := Rch.lt (hpr a ha).1
    have hlb := Rch.lt (hpr b hb).1
    have ea := tb.ta a (hpr a ha).1
    have eb := tb.ta b (hpr b hb).1
    have tl := tb.tl
    simp only [meetF]
    by_cases hab : a = b
    · subst hab
      rw [if_pos rfl]
      exact ⟨a, rfl, ha, fun x => ⟨fun h => ⟨h, h⟩, fun h => h.1⟩⟩
    · rw [if_neg (by omega), if_pos ⟨by omega, by omega, by omega, by omega, by omega, by omega⟩]
      rw [rd_nat, rd_nat, rd_nat, rd_nat, ea, eb]
      have ea2 : D.getD a 0 = ((dOf D a : Nat) : Int) := by have := (hpr a ha).2; unfold dOf; omega
      have eb2 : D.getD b 0 = ((dOf D b : Nat) : Int) := by have := (hpr b hb).2; unfold dOf; omega
      by_cases hl : at_ T b < at_ T a
      · rw [if_pos (by omega), ea2]
        have h0 : a ≠ 0 := by rintro rfl; rw [at_0] at hl; omega
        have hlt := hc.lt a ha h0
        obtain ⟨m, e, h1, h2⟩ := ih (dOf D a) b (hc.dp a ha) hb (by omega)
        exact ⟨m, e, h1, fun x => (h2 x).trans (meet_step hc hb hl).symm⟩
      · rw [if_neg (by omega), eb2]
        have hne : at_ T a ≠ at_ T b := fun h => hab (at_inj o (hpr a ha).1 (hpr b hb).1 h)
        have h0 : b ≠ 0 := by rintro rfl; rw [at_0] at hne hl; omega
        have hlt := hc.lt b hb h0
        obtain ⟨m, e, h1, h2⟩ := ih a (dOf D b) ha (hc.dp b hb) (by omega)
        refine ⟨m, e, h1, fun x => (h2 x).trans ?_⟩
        have h3 := meet_step (x := x) hc ha (a := b) (b := a) (by omega)
        exact ⟨fun h => (h3.mpr ⟨h.2, h.1⟩).symm, fun h => (h3.mp ⟨h.2, h.1⟩).symm⟩
theorem bestF_spec (o : Ord next T) {T1 : List Int} {P1 : List (List Int)} (tb : Tabs next T T1 P1) {D : List Int} (hD : D.length = next.length) {pr : Nat → Prop} (hpr : ∀ v, pr v ↔ Rch next v ∧ 0 ≤ D.getD v 0) (hc : Ch (at_ T) pr (dOf D)) {K : Nat} (hK : 2 * T.length + 2 < K) :
    ∀ (ps : List Int), (∀ p, p ∈ ps → ∃ u : Nat, p = (u : Int) ∧ Rch next u) → ∀ b : Int, (b = -1 ∨ ∃ m : Nat, b = (m : Int) ∧ pr m) → ∃ b' : Int, bestF K T1 D ps b = some b' ∧
      ((b' = -1 ∧ b = -1 ∧ ∀ u : Nat, (u : Int) ∈ ps → ¬ pr u) ∨ ∃ m' : Nat, b' = (m' : Int) ∧ pr m' ∧ ∀ x, C (dOf D) x m' ↔ (∀ m : Nat, b = (m : Int) → C (dOf D) x m) ∧ ∀ u : Nat, (u : Int) ∈ ps → pr u → C (dOf D) x u) := by
  intro ps
  induction ps with
  | nil =>
    intro _ b hb
    refine ⟨b, rfl, ?_⟩
    rcases hb with rfl | ⟨m, rfl, hm⟩
    · exact Or.inl ⟨rfl, rfl, by simp⟩
    · refine Or.inr ⟨m, rfl, hm, fun x => ⟨fun h => ⟨fun m' e => ?_, by simp⟩, fun h => h.1 m rfl⟩⟩
      have : m = m' := by omega
      rw [← this]; exact h
  | cons p ps ih =>
    intro hps b hb
    obtain ⟨u, rfl, hu⟩ := hps p List.mem_cons_self
    have hps' := fun q h => hps q (List.mem_cons_of_mem _ h)
    have hul := Rch.lt hu
    simp only [bestF]
    rw [if_pos ⟨by omega, by omega⟩, rd_nat]
    by_cases hneg : D.getD u 0 < 0
    · rw [if_pos hneg]
      have hnp : ¬ pr u := fun h => by have := ((hpr u).mp h).2; omega
      obtain ⟨b', e, h⟩ := ih hps' b hb
      refine ⟨b', e, ?_⟩
      rcases h with ⟨h1, h2, h3⟩ | ⟨m', h1, h2, h3⟩
      · refine Or.inl ⟨h1, h2, fun v hv => ?_⟩
        rcases List.mem_cons.mp hv with hv | hv
        · have : v = u := by omega
          rw [this]; exact hnp
        · exact h3 v hv
      · refine Or.inr ⟨m', h1, h2, fun x => (h3 x).trans ⟨fun h => ⟨h.1, fun v hv hp => ?_⟩, fun h => ⟨h.1, fun v hv hp => h.2 v (List.mem_cons_of_mem _ hv) hp⟩⟩⟩
        rcases List.mem_cons.mp hv with hv | hv
        · have : v = u := by omega
          rw [this] at hp; exact absurd hp hnp
        · exact h.2 v hv hp
    · rw [if_neg hneg]
      have hup : pr u := (hpr u).mpr ⟨hu, by omega⟩
      rcases hb with rfl | ⟨m, rfl, hm⟩
      · rw [if_pos (by omega)]
        obtain ⟨b', e, h⟩ := ih hps' (u : Int) (Or.inr ⟨u, rfl, hup⟩)
        refine ⟨b', e, ?_⟩
        rcases h with ⟨_, h2, _⟩ | ⟨m', h1, h2, h3⟩
        · omega
        · refine Or.inr ⟨m', h1, h2, fun x => (h3 x).trans ⟨fun h => ⟨fun m e => by omega, fun v hv hp => ?_⟩, fun h => ⟨fun m e => ?_, fun v hv hp => h.2 v (List.mem_cons_of_mem _ hv) hp⟩⟩⟩
          · rcases List.mem_cons.mp hv with hv | hv
            · have : v = u := by omega
              rw [this]; exact h.1 u rfl
            · exact h.2 v hv hp
          · have : m = u := by omega
            rw [this]; exact h.2 u List.mem_cons_self hup
      · rw [if_neg (by omega)]
        have hl1 := at_lt o hu
        have hl2 := at_lt o ((hpr m).mp hm).1
        obtain ⟨q, eq, hq1, hq2⟩ := meetF_spec o tb hD (fun v h => (hpr v).mp h) hc K m u hm hup (by omega)
        rw [eq]
        simp only [Option.bind_some]
        obtain ⟨b', e, h⟩ := ih hps' (q : Int) (Or.inr ⟨q, rfl, hq1⟩)
        refine ⟨b', e, ?_⟩
        rcases h with ⟨_, h2, _⟩ | ⟨m', h1, h2, h3⟩
        · omega
        · refine Or.inr ⟨m', h1, h2, fun x => (h3 x).trans ⟨fun h => ?_, fun h => ⟨fun m2 e2 => ?_, fun v hv hp => h.2 v (List.mem_cons_of_mem _ hv) hp⟩⟩⟩
          · have h4 := (hq2 x).mp (h.1 q rfl)
            refine ⟨fun m2 e2 => ?_, fun v hv hp => ?_⟩
            · have : m2 = m := by omega
              rw [this]; exact h4.1
            · rcases List.mem_cons.mp hv with hv | hv
              · have : v = u := by omega
                rw [this]; exact h4.2
              · exact h.2 v hv hp
          · have : m2 = q := by omega
            rw [this]
            exact (hq2 x).mpr ⟨h.1 m rfl, h.2 u List.mem_cons_self hup⟩
end
end Go.Proofs.YtfiffhcpgojkhaaDoor.DomP
/- dom.Idom's rounds: they end, and each place's nearest dominator stands there; plain. No condition but that the graph is small. -/
namespace Go.Proofs.YtfiffhcpgojkhaaDoor.DomP
open Go.Proofs.YtfiffhcpgojkhaaDoor Go.Proofs.YtfiffhcpgojkhaaDoor.DomA Go.Proofs.YtfiffhcpgojkhaaDoor.DomF Go.Proofs.YtfiffhcpgojkhaaDoor.DomT Go.RowKit Go.Proofs.YtfiffhcpgojkhaaDoorW.PrintWords
set_option linter.unusedSimpArgs false
set_option linter.unusedVariables false
theorem getDl_set (P : List (List Int)) (i j : Nat) (x : List Int) (hi : i < P.length) : (P.set i x).getD j [] = if j = i then x else P.getD j [] := by
  by_cases h : j = i
  · subst h; simp [List.getD_eq_getElem?_getD, hi]
  · rw [if_neg h]; simp [List.getD_eq_getElem?_getD, List.getElem?_set, Ne.symm h]
theorem innerP_spec (n : Nat) (i : Int) : ∀ (cs : List Int) (P : List (List Int)), P.length = n → (∀ j, (P.getD j []).length + cs.length < 17592186044416) →
    ∃ P', innerP n i cs P = some P' ∧ P'.length = n ∧ (∀ j, j < n → ∀ p, p ∈ P'.getD j [] ↔ p ∈ P.getD j [] ∨ (p = i ∧ (j : Int) ∈ cs)) ∧ ∀ j, (P'.getD j []).length ≤ (P.getD j []).length + cs.length := by
  intro cs
  induction cs with
  | nil => intro P hP _; exact ⟨P, rfl, hP, fun j _ p => by simp, fun j => Nat.le_refl _⟩
  | cons c cs ih =>
    intro P hP hb
    simp only [innerP]
    simp only [List.length_cons] at hb
    by_cases hc : 0 ≤ c ∧ c < (n : Int)
    · have hcl : c.toNat < P.length := by omega
      rw [if_pos hc, if_pos (by have := hb c.toNat; simp only [rdL]; omega)]
      obtain ⟨P', h1, h2, h3, h4⟩ := ih (P.set c.toNat (rdL P c ++ [i])) (by simpa using hP) (fun j => by
        rw [getDl_set _ _ _ _ hcl]
        have := hb j
        split
        · rename_i e; subst e; simp only [rdL, List.length_append, List.length_cons, List.length_nil]; omega
        · omega)
      refine ⟨P', h1, h2, fun j hj p => ?_, fun j => ?_⟩
      · rw [h3 j hj p, getDl_set _ _ _ _ hcl]
        by_cases e : j = c.toNat
        · have e2 : (j : Int) = c := by omega
          rw [if_pos e]
          subst e
          simp only [rdL, List.mem_append, List.mem_cons, List.not_mem_nil, or_false, e2, true_or, and_true]
          constructor
          · rintro ((h | h) | ⟨h, _⟩)
            · exact Or.inl h
            · exact Or.inr h
            · exact Or.inr h
          · rintro (h | h)
            · exact Or.inl (Or.inl h)
            · exact Or.inl (Or.inr h)
        · rw [if_neg e]
          have e2 : ¬ (j : Int) = c := by omega
          simp only [List.mem_cons, e2, false_or]
      · have h5 := h4 j
        rw [getDl_set _ _ _ _ hcl] at h5
        simp only [List.length_cons]
        split at h5
        · rename_i e; subst e; simp only [rdL, List.length_append, List.length_cons, List.length_nil] at h5; omega
        · omega
    · rw [if_neg hc]
      obtain ⟨P', h1, h2, h3, h4⟩ := ih P hP (fun j => by have := hb j; omega)
      refine ⟨P', h1, h2, fun j hj p => ?_, fun j => by have := h4 j; simp only [List.length_cons]; omega⟩
      rw [h3 j hj p]
      have e2 : ¬ (j : Int) = c := by omega
      simp only [List.mem_cons, e2, false_or]
section
variable {next : List (List Int)} {T : List Nat}
theorem at_idx (o : Ord next T) {A B : List Nat} {v : Nat} (h : 0 :: T = A ++ v :: B) : at_ T v = A.length := by
  have hnd := o.nd
  rw [h] at hnd
  have hA : v ∉ A := fun hm => (List.nodup_append.mp hnd).2.2 v hm v List.mem_cons_self rfl
  unfold at_
  rw [h, List.idxOf_append, if_neg hA, List.idxOf_cons_self]
  omega
theorem outerP_spec (o : Ord next T) (sm : Small next) : ∀ (B A : List Nat) (T1 : List Int) (P : List (List Int)), 0 :: T = A ++ B → T1.length = next.length → P.length = next.length → (∀ v, v ∈ A → T1.getD v 0 = (at_ T v : Int)) →
    (∀ j, j < next.length → ∀ p : Int, p ∈ P.getD j [] ↔ ∃ u : Nat, p = (u : Int) ∧ u ∈ A ∧ E next u j) → (∀ j, (P.getD j []).length ≤ 1000 * A.length) → ∃ T' P', outerP next (B.map fun v : Nat => (v : Int)) A.length T1 P = some (T', P') ∧ Tabs next T T' P' := by
  have hTl : (0 :: T).length ≤ next.length := nodup_len _ _ o.nd fun v hv => Rch.lt ((o.mem v).mp hv)
  intro B
  induction B with
  | nil =>
    intro A T1 P hA h1 h2 h3 h4 h5
    rw [List.append_nil] at hA
    subst hA
    refine ⟨T1, P, rfl, h1, fun v hv => h3 v ((o.mem v).mpr hv), fun j hj p => (h4 j hj p).trans ⟨fun ⟨u, e, hu, he⟩ => ⟨u, e, (o.mem u).mp hu, he⟩, fun ⟨u, e, hu, he⟩ => ⟨u, e, (o.mem u).mpr hu, he⟩⟩, fun j => ?_⟩
    have := h5 j
    have := sm.1
    omega
  | cons v B ih =>
    intro A T1 P hA h1 h2 h3 h4 h5
    have hvR : Rch next v := (o.mem v).mp (by rw [hA]; exact List.mem_append_right _ List.mem_cons_self)
    have hvl := Rch.lt hvR
    have hAl : A.length + 1 ≤ 1000 := by
      have e := congrArg List.length hA
      simp only [List.length_append, List.length_cons] at e hTl
      have := sm.1
      omega
    simp only [List.map_cons, outerP]
    rw [if_pos ⟨by omega, by omega⟩]
    have hcs : (rdL next (v : Int)).length ≤ 1000 := by simpa [rdL] using sm.2 v
    obtain ⟨P', e, p1, p2, p3⟩ := innerP_spec next.length (v : Int) (rdL next (v : Int)) P h2 (fun j => by have := h5 j; omega)
    rw [e]
    simp only [Option.bind_some, Int.toNat_natCast]
    have hvA : v ∉ A := by
      have hnd := o.nd
      rw [hA] at hnd
      exact fun hm => (List.nodup_append.mp hnd).2.2 v hm v List.mem_cons_self rfl
    obtain ⟨T', P2, e2, tb⟩ := ih (A ++ [v]) (T1.set v (A.length : Int)) P' (by rw [hA]; simp) (by simpa using h1) p1 (fun u hu => by
      rw [getD_set_ _ _ _ _ (by omega)]
      by_cases huv : u = v
      · rw [if_pos huv, huv, at_idx o hA]
      · rw [if_neg huv]
        rcases List.mem_append.mp hu with h | h
        · exact h3 u h
        · exact absurd (List.mem_singleton.mp h) huv) (fun j hj p => by
      rw [p2 j hj p, h4 j hj p]
      constructor
      · rintro (⟨u, e, hu, he⟩ | ⟨rfl, he⟩)
        · exact ⟨u, e, List.mem_append_left _ hu, he⟩
        · exact ⟨v, rfl, List.mem_append_right _ (List.mem_singleton.mpr rfl), by simpa [rdL] using he, hj⟩
      · rintro ⟨u, e3, hu, he⟩
        rcases List.mem_append.mp hu with h | h
        · exact Or.inl ⟨u, e3, h, he⟩
        · rw [List.mem_singleton] at h
          subst h
          exact Or.inr ⟨e3, by simpa [rdL] using he.1⟩) (fun j => by
      have := p3 j
      have := h5 j
      simp only [List.length_append, List.length_cons, List.length_nil]
      omega)
    exact ⟨T', P2, by simpa using e2, tb⟩
/-- The first round. -/
structure S1 (o : Ord next T) (A : List Nat) (D : List Int) : Prop where
  len : D.length = next.length
  un : ∀ v, v < next.length → v ∉ 0 :: A → D.getD v 0 = -1
  pos : ∀ v, v ∈ 0 :: A → 0 ≤ D.getD v 0
  inv : Inv (at_ T) (par o) (Rch next) (pre next) (fun j => Rch next j ∧ at_ T j < A.length + 1) (dOf D)
  fst : Fst (at_ T) (par o) (Rch next) (pre next) (dOf D) (A.length + 1)
/-- A later round's state. -/
structure S2 (o : Ord next T) (D : List Int) : Prop where
  len : D.length = next.length
  un : ∀ v, v < next.length → ¬ Rch next v → D.getD v 0 = -1
  pos : ∀ v, Rch next v → 0 ≤ D.getD v 0
  inv : Inv (at_ T) (par o) (Rch next) (pre next) (Rch next) (dOf D)
theorem pre_R {p j : Nat} (h : pre next p j) : Rch next j := .step h.1 h.2
theorem tab_elem {T1 : List Int} {P1 : List (List Int)} (tb : Tabs next T T1 P1) {i : Nat} (hi : i < next.length) (u : Nat) : (u : Int) ∈ P1.getD i [] ↔ pre next u i := by
  rw [tb.pm i hi]
  constructor
  · rintro ⟨v, e, h⟩
    have : u = v := by omega
    rw [this]; exact h
  · exact fun h => ⟨u, rfl, h⟩
theorem best_meets (o : Ord next T) (hn : 0 < next.length) {T1 : List Int} {P1 : List (List Int)} (tb : Tabs next T T1 P1) {D : List Int} (hD : D.length = next.length) {pr : Nat → Prop} (hpr : ∀ v, pr v ↔ Rch next v ∧ 0 ≤ D.getD v 0) (hc : Ch (at_ T) pr (dOf D)) {K : Nat} (hK : 2 * T.length + 2 < K)
    {i : Nat} (hi : Rch next i) (h0 : i ≠ 0) (hp : pr (par o i)) : ∃ m : Nat, bestF K T1 D (rdL P1 (i : Int)) (-1) = some (m : Int) ∧ Meets (dOf D) (pre next) pr i m := by
  have hil := Rch.lt hi
  have e0 : rdL P1 (i : Int) = P1.getD i [] := by simp [rdL]
  rw [e0]
  obtain ⟨b', e, h⟩ := bestF_spec o tb hD hpr hc hK (P1.getD i []) (fun p hp => by
    obtain ⟨u, e, hu⟩ := (tb.pm i hil p).mp hp
    exact ⟨u, e, hu.1⟩) (-1) (Or.inl rfl)
  rcases h with ⟨_, _, h3⟩ | ⟨m', rfl, h2, h3⟩
  · exact absurd hp (h3 (par o i) ((tab_elem tb hil _).mpr ((gr o hn).parE i hi h0)))
  · refine ⟨m', e, fun x => (h3 x).trans ⟨fun h p hp1 hp2 => h.2 p ((tab_elem tb hil p).mpr hp1) hp2, fun h => ⟨fun m e => by omega, fun u hu hp2 => h u ((tab_elem tb hil u).mp hu) hp2⟩⟩⟩
theorem pass_first (o : Ord next T) (hn : 0 < next.length) {T1 : List Int} {P1 : List (List Int)} (tb : Tabs next T T1 P1) {K : Nat} (hK : 2 * T.length + 2 < K) : ∀ (B A : List Nat) (D : List Int) (more : Bool), T = A ++ B → S1 o A D →
    ∃ D' more', passF K T1 P1 (B.map fun v : Nat => (v : Int)) D more = some (D', more') ∧ S1 o T D' ∧ (more' = false → B = [] ∧ D' = D) := by
  have g := gr o hn
  intro B
  induction B with
  | nil =>
    intro A D more hA s
    rw [List.append_nil] at hA
    subst hA
    exact ⟨D, more, rfl, s, fun _ => ⟨rfl, rfl⟩⟩
  | cons i B ih =>
    intro A D more hA s
    have hiR : Rch next i := (o.mem i).mp (by rw [hA]; exact List.mem_cons_of_mem _ (List.mem_append_right _ List.mem_cons_self))
    have hil := Rch.lt hiR
    have hat := at_mid o hA
    have h0 : i ≠ 0 := by rintro rfl; rw [at_0] at hat; omega
    have hpr : ∀ v, (Rch next v ∧ at_ T v < A.length + 1) ↔ Rch next v ∧ 0 ≤ D.getD v 0 := by
      intro v
      constructor
      · rintro ⟨h, hl⟩
        exact ⟨h, s.pos v ((at_before o hA h).mp (by omega))⟩
      · rintro ⟨h, hl⟩
        refine ⟨h, ?_⟩
        have : v ∈ 0 :: A := by
          apply Classical.byContradiction
          intro hm
          have := s.un v (Rch.lt h) hm
          omega
        have := (at_before o hA h).mpr this
        omega
    have hpi : Rch next (par o i) ∧ at_ T (par o i) < A.length + 1 := ⟨g.parR i hiR, by have := g.parL i hiR h0; omega⟩
    obtain ⟨m, e, hm⟩ := best_meets o hn tb s.len hpr s.inv.ch hK hiR h0 hpi
    have hiA : i ∉ 0 :: A := by
      intro h
      have := (at_before o hA hiR).mpr h
      omega
    have hDi := s.un i hil hiA
    have hnew : S1 o (A ++ [i]) (D.set i (m : Int)) := by
      have hpr' : (fun j => Rch next j ∧ at_ T j < A.length + 1) = fun j => Rch next j ∧ at_ T j < at_ T i := by rw [hat]
      have hinv := s.inv.step g h0 hiR hpi hm
      have hfst := Fst.step g (fun i j hi hj h => at_inj o hi hj h) (by rw [← hpr']; exact s.inv) (by rw [hat]; exact s.fst) h0 hiR (by rw [← hpr']; exact hm)
      refine ⟨by simpa using s.len, fun v hv hvA => ?_, fun v hv => ?_, ?_, ?_⟩
      · rw [getD_set_ _ _ _ _ (by rw [s.len]; exact hil), if_neg (by rintro rfl; exact hvA (by simp))]
        exact s.un v hv (fun h => hvA (by
          rcases List.mem_cons.mp h with h | h
          · subst h; exact List.mem_cons_self
          · exact List.mem_cons_of_mem _ (List.mem_append_left _ h)))
      · rw [getD_set_ _ _ _ _ (by rw [s.len]; exact hil)]
        by_cases e : v = i
        · rw [if_pos e]; omega
        · rw [if_neg e]
          refine s.pos v ?_
          simpa [e] using hv
      · rw [dOf_set _ _ _ (by rw [s.len]; exact hil)]
        have e2 : (fun j => Rch next j ∧ at_ T j < (A ++ [i]).length + 1) = fun j => (Rch next j ∧ at_ T j < A.length + 1) ∨ j = i := by
          funext j
          apply propext
          simp only [List.length_append, List.length_cons, List.length_nil]
          constructor
          · rintro ⟨h, hl⟩
            by_cases hl2 : at_ T j < A.length + 1
            · exact Or.inl ⟨h, hl2⟩
            · exact Or.inr (at_inj o h hiR (by omega))
          · rintro (⟨h, hl⟩ | rfl)
            · exact ⟨h, by omega⟩
            · exact ⟨hiR, by omega⟩
        rw [e2]
        exact hinv
      · rw [dOf_set _ _ _ (by rw [s.len]; exact hil)]
        simp only [List.length_append, List.length_cons, List.length_nil]
        rw [hat] at hfst
        exact hfst
    obtain ⟨D', more', e2, s2, h2⟩ := ih (A ++ [i]) (D.set i (m : Int)) true (by rw [hA]; simp) hnew
    refine ⟨D', more', ?_, s2, fun h => ?_⟩
    · simp only [List.map_cons, passF]
      rw [if_pos ⟨by omega, by have := s.len; omega, by simpa [rdL] using tb.pb i⟩, e]
      simp only [Option.bind_some]
      rw [rd_nat, hDi, if_neg (by omega), Int.toNat_natCast]
      exact e2
    · obtain ⟨hB, _⟩ := h2 h
      subst hB
      simp only [List.map_nil, passF, Option.some.injEq, Prod.mk.injEq] at e2
      rw [← e2.2] at h
      cases h
def mu (T : List Nat) (D : List Int) : Nat := (T.map fun v => at_ T (dOf D v)).sum
theorem sum_le {L : List Nat} {f g : Nat → Nat} (h : ∀ v, v ∈ L → g v ≤ f v) : (L.map g).sum ≤ (L.map f).sum := by
  induction L with
  | nil => exact Nat.le_refl _
  | cons a L ih =>
    simp only [List.map_cons, List.sum_cons]
    have := h a List.mem_cons_self
    have := ih fun v hv => h v (List.mem_cons_of_mem _ hv)
    omega
theorem sum_lt {L : List Nat} {f g : Nat → Nat} (h : ∀ v, v ∈ L → g v ≤ f v) {i : Nat} (hi : i ∈ L) (hl : g i < f i) : (L.map g).sum < (L.map f).sum := by
  induction L with
  | nil => cases hi
  | cons a L ih =>
    simp only [List.map_cons, List.sum_cons]
    have h1 := h a List.mem_cons_self
    rcases List.mem_cons.mp hi with rfl | hi
    · have := sum_le fun v hv => h v (List.mem_cons_of_mem _ hv)
      omega
    · have := ih (fun v hv => h v (List.mem_cons_of_mem _ hv)) hi
      omega
theorem upd_self (d : Nat → Nat) (i : Nat) : upd d i (d i) = d := by
  funext j
  unfold upd
  by_cases h : j = i
  · rw [if_pos h, h]
  · rw [if_neg h]
theorem pass_next (o : Ord next T) (hn : 0 < next.length) {T1 : List Int} {P1 : List (List Int)} (tb : Tabs next T T1 P1) {K : Nat} (hK : 2 * T.length + 2 < K) {D0 : List Int} (s0 : S2 o D0)
    (c0 : ∀ i, Rch next i → i ≠ 0 → ∀ x, (∀ p, pre next p i → C (dOf D0) x p) → C (dOf D0) x (dOf D0 i)) : ∀ (B A : List Nat) (D : List Int) (more : Bool), T = A ++ B → S2 o D → Nxt (at_ T) (par o) (Rch next) (pre next) (dOf D0) (dOf D) (A.length + 1) →
    ∃ D' more', passF K T1 P1 (B.map fun v : Nat => (v : Int)) D more = some (D', more') ∧ S2 o D' ∧ Nxt (at_ T) (par o) (Rch next) (pre next) (dOf D0) (dOf D') (T.length + 1) ∧ mu T D' ≤ mu T D ∧ (more' = true → more = true ∨ mu T D' < mu T D) ∧ (more' = false → more = false ∧ D' = D ∧ ∀ i, i ∈ B → Meets (dOf D) (pre next) (Rch next) i (dOf D i)) := by
  have g := gr o hn
  intro B
  induction B with
  | nil =>
    intro A D more hA s f
    rw [List.append_nil] at hA
    subst hA
    exact ⟨D, more, rfl, s, f, Nat.le_refl _, fun h => Or.inl h, fun h => ⟨h, rfl, by simp⟩⟩
  | cons i B ih =>
    intro A D more hA s f
    have hiT : i ∈ T := by rw [hA]; exact List.mem_append_right _ List.mem_cons_self
    have hiR : Rch next i := (o.mem i).mp (List.mem_cons_of_mem _ hiT)
    have hil := Rch.lt hiR
    have hat := at_mid o hA
    have h0 : i ≠ 0 := by rintro rfl; rw [at_0] at hat; omega
    have hpr : ∀ v, Rch next v ↔ Rch next v ∧ 0 ≤ D.getD v 0 := fun v => ⟨fun h => ⟨h, s.pos v h⟩, fun h => h.1⟩
    obtain ⟨m, e, hm⟩ := best_meets o hn tb s.len hpr s.inv.ch hK hiR h0 (g.parR i hiR)
    have hDi : D.getD i 0 = ((dOf D i : Nat) : Int) := by have := s.pos i hiR; unfold dOf; omega
    have hf2 : Nxt (at_ T) (par o) (Rch next) (pre next) (dOf D0) (dOf D) (at_ T i) := by rw [hat]; exact f
    have hbest := hf2.best g s0.inv c0 s.inv h0 hiR hm
    have hstep := hf2.step g (fun i j hi hj h => at_inj o hi hj h) s0.inv c0 s.inv h0 hiR hm
    have hinv := s.inv.step g h0 hiR (g.parR i hiR) hm
    have epr : (fun j => Rch next j ∨ j = i) = Rch next := by
      funext j
      exact propext ⟨fun h => h.elim id (fun h => h ▸ hiR), Or.inl⟩
    rw [epr] at hinv
    rw [hat] at hstep
    by_cases hmd : m = dOf D i
    · rw [hmd, upd_self] at hstep
      obtain ⟨D', more', e2, s2, n2, m2, b2, c2⟩ := ih (A ++ [i]) D more (by rw [hA]; simp) s (by simpa using hstep)
      refine ⟨D', more', ?_, s2, n2, m2, b2, fun h => ?_⟩
      · simp only [List.map_cons, passF]
        rw [if_pos ⟨by omega, by have := s.len; omega, by simpa [rdL] using tb.pb i⟩, e]
        simp only [Option.bind_some]
        rw [rd_nat, hDi, if_pos (by omega)]
        exact e2
      · obtain ⟨h1, h2, h3⟩ := c2 h
        refine ⟨h1, h2, fun v hv => ?_⟩
        rcases List.mem_cons.mp hv with rfl | hv
        · rw [← hmd]; exact hm
        · exact h3 v hv
    · have hlt : at_ T m < at_ T (dOf D i) := by
        rcases hbest.le s.inv.ch (s.inv.ch.dp i hiR) with e | e
        · exact absurd e hmd
        · exact e
      have hDl : i < D.length := by rw [s.len]; exact hil
      have hs2 : S2 o (D.set i (m : Int)) := by
        refine ⟨by simpa using s.len, fun v hv hR => ?_, fun v hR => ?_, by rw [dOf_set _ _ _ hDl]; exact hinv⟩
        · rw [getD_set_ _ _ _ _ hDl, if_neg (by rintro rfl; exact hR hiR)]
          exact s.un v hv hR
        · rw [getD_set_ _ _ _ _ hDl]
          by_cases e : v = i
          · rw [if_pos e]; omega
          · rw [if_neg e]; exact s.pos v hR
      have hmu : mu T (D.set i (m : Int)) < mu T D := by
        unfold mu
        rw [dOf_set _ _ _ hDl]
        refine sum_lt (i := i) (fun v hv => ?_) hiT ?_
        · unfold upd
          by_cases e : v = i
          · rw [if_pos e, e]; omega
          · rw [if_neg e]; exact Nat.le_refl _
        · rw [upd_same]; exact hlt
      obtain ⟨D', more', e2, s2, n2, m2, b2, c2⟩ := ih (A ++ [i]) (D.set i (m : Int)) true (by rw [hA]; simp) hs2 (by rw [dOf_set _ _ _ hDl]; simpa using hstep)
      refine ⟨D', more', ?_, s2, n2, by omega, fun _ => Or.inr (by omega), fun h => ?_⟩
      · simp only [List.map_cons, passF]
        rw [if_pos ⟨by omega, by have := s.len; omega, by simpa [rdL] using tb.pb i⟩, e]
        simp only [Option.bind_some]
        rw [rd_nat, hDi, if_neg (by omega), Int.toNat_natCast]
        exact e2
      · exact absurd (c2 h).1 (by decide)
/-- The end: each place's chain goes on by what all its places ahead have in common. -/
def Fin (o : Ord next T) (D : List Int) : Prop := S2 o D ∧ ∀ i, i ∈ T → Meets (dOf D) (pre next) (Rch next) i (dOf D i)
theorem rounds_next (o : Ord next T) (hn : 0 < next.length) {T1 : List Int} {P1 : List (List Int)} (tb : Tabs next T T1 P1) {K : Nat} (hK : 2 * T.length + 2 < K) : ∀ (R : Nat) (D : List Int), S2 o D →
    (∀ i, Rch next i → i ≠ 0 → ∀ x, (∀ p, pre next p i → C (dOf D) x p) → C (dOf D) x (dOf D i)) → mu T D < R → ∃ Df, roundsF K T1 P1 (T.map fun v : Nat => (v : Int)) R D = some Df ∧ Fin o Df := by
  intro R
  induction R with
  | zero => intro D _ _ h; omega
  | succ R ih =>
    intro D s c0 hR
    have n0 : Nxt (at_ T) (par o) (Rch next) (pre next) (dOf D) (dOf D) (([] : List Nat).length + 1) := by
      refine ⟨fun x j _ h => h, fun i hi h0 hl => ?_, fun i hi h0 hl => ?_, fun i _ _ => rfl⟩
      · exact absurd (at_inj o hi (.root hn) (by rw [at_0]; simp at hl; exact hl)) h0
      · exact absurd (at_inj o hi (.root hn) (by rw [at_0]; simp at hl; exact hl)) h0
    obtain ⟨D', more', e, s2, n2, m2, b2, c2⟩ := pass_next o hn tb hK s c0 T [] D false rfl s n0
    simp only [roundsF, e, Option.bind_some]
    cases more' with
    | false =>
      obtain ⟨_, rfl, h3⟩ := c2 rfl
      exact ⟨D', by simp, s, h3⟩
    | true =>
      have hlt := (b2 rfl).resolve_left (by decide)
      simp only [if_true]
      exact ih D' s2 (fun i hi h0 x hx => n2.c i hi h0 (at_lt o hi) x hx) (by omega)
theorem S1_0 (o : Ord next T) (hn : 0 < next.length) : S1 o [] ((List.replicate next.length (-1)).set 0 0) := by
  have hl : 0 < (List.replicate next.length (-1 : Int)).length := by simpa using hn
  have hd0 : dOf ((List.replicate next.length (-1 : Int)).set 0 0) 0 = 0 := by
    unfold dOf; rw [getD_set_ _ _ _ _ hl, if_pos rfl]; rfl
  have honly : ∀ j, (Rch next j ∧ at_ T j < ([] : List Nat).length + 1) → j = 0 := fun j h => at_inj o h.1 (.root hn) (by rw [at_0]; have := h.2; simp at this; exact this)
  refine ⟨by simp, fun v hv hA => ?_, fun v hv => ?_, ⟨⟨hd0, ⟨.root hn, by rw [at_0]; simp⟩, fun j hj => ?_, fun j hj h0 => absurd (honly j hj) h0⟩, fun j hj => hj.1, fun x j hj hx => ?_, fun x j hj hx => ?_⟩, ⟨fun i hi h0 hl => absurd (honly i ⟨hi, hl⟩) h0, fun i hi h0 hl => absurd (honly i ⟨hi, hl⟩) h0⟩⟩
  · rw [getD_set_ _ _ _ _ hl, if_neg (by rintro rfl; exact hA List.mem_cons_self)]
    simp [List.getD_eq_getElem?_getD, hv]
  · rw [List.mem_singleton] at hv
    subst hv
    rw [getD_set_ _ _ _ _ hl, if_pos rfl]
    exact Int.le_refl _
  · have := honly j hj
    subst this
    rw [hd0]
    exact hj
  · have := honly j hj
    subst this
    rw [hx.root hd0]
    exact .refl _
  · have := honly j hj
    subst this
    by_cases e : x = 0
    · subst e; exact .refl _
    · exact absurd (.root (Ne.symm e)) hx
theorem S1.S2 (o : Ord next T) {D : List Int} (s : S1 o T D) : S2 o D := by
  have e : (fun j => Rch next j ∧ at_ T j < T.length + 1) = Rch next := by
    funext j
    exact propext ⟨fun h => h.1, fun h => ⟨h, at_lt o h⟩⟩
  refine ⟨s.len, fun v hv hR => s.un v hv (fun h => hR ((o.mem v).mp h)), fun v hR => s.pos v ((o.mem v).mpr hR), ?_⟩
  have := s.inv
  rw [e] at this
  exact this
theorem mu_le (o : Ord next T) {D : List Int} (s : S2 o D) : mu T D ≤ T.length * (T.length + 1) := by
  have h : ∀ L : List Nat, (∀ v, v ∈ L → at_ T (dOf D v) ≤ T.length + 1) → (L.map fun v => at_ T (dOf D v)).sum ≤ L.length * (T.length + 1) := by
    intro L
    induction L with
    | nil => intro _; exact Nat.zero_le _
    | cons a L ih =>
      intro h
      simp only [List.map_cons, List.sum_cons, List.length_cons]
      have h1 := h a List.mem_cons_self
      have h2 := ih fun v hv => h v (List.mem_cons_of_mem _ hv)
      rw [Nat.add_one_mul]
      omega
  exact h T fun v hv => Nat.le_of_lt (at_lt o (s.inv.ch.dp v ((o.mem v).mp (List.mem_cons_of_mem _ hv))))
theorem rounds_all (o : Ord next T) (hn : 0 < next.length) {T1 : List Int} {P1 : List (List Int)} (tb : Tabs next T T1 P1) {K R : Nat} (hK : 2 * T.length + 2 < K) (hR : T.length * (T.length + 1) + 1 < R) :
    ∃ Df, roundsF K T1 P1 (T.map fun v : Nat => (v : Int)) R ((List.replicate next.length (-1)).set 0 0) = some Df ∧ Fin o Df := by
  obtain ⟨R, rfl⟩ : ∃ q, R = q + 1 := ⟨R - 1, by omega⟩
  obtain ⟨D', more', e, s, h⟩ := pass_first o hn tb hK T [] _ false rfl (S1_0 o hn)
  simp only [roundsF, e, Option.bind_some]
  have s2 := s.S2 o
  cases more' with
  | false =>
    obtain ⟨hT, _⟩ := h rfl
    exact ⟨D', by simp, s2, fun i hi => by rw [hT] at hi; cases hi⟩
  | true =>
    simp only [if_true]
    refine rounds_next o hn tb hK R D' s2 (fun i hi h0 x hx => s.fst.c i hi h0 (at_lt o hi) x fun p hp _ => hx p hp) ?_
    have := mu_le o s2
    omega
/-- x is on every way to v. -/
def Dm (next : List (List Int)) (x v : Nat) : Prop := Rch next v ∧ ¬ Av (pre next) x v
theorem fin_dom (o : Ord next T) (hn : 0 < next.length) {D : List Int} (f : Fin o D) (x v : Nat) (hv : Rch next v) : C (dOf D) x v ↔ Dm next x v := by
  constructor
  · intro hc
    refine ⟨hv, fun ha => dom_of_chain f.1.inv.ch.d0 (fun j h0 p hp x hx => ?_) ha hc⟩
    have hj : j ∈ T := by
      rcases List.mem_cons.mp ((o.mem j).mpr (pre_R hp)) with h | h
      · exact absurd h h0
      · exact h
    exact (f.2 j hj x).mp hx p hp hp.1
  · exact fun h => f.1.inv.i x v hv h.2
end
theorem order_some (next : List (List Int)) (sm : Small next) (hn : 0 < next.length) : ∃ T, Ord next T ∧ dom_Order.f next = some ((0 :: T).map fun v : Nat => (v : Int)) := by
  obtain ⟨T, e, h1, h2, h3⟩ := orderF_spec next hn
  have o : Ord next T := ⟨h1, h2, h3⟩
  refine ⟨T, o, ?_⟩
  have hTl : (0 :: T).length ≤ next.length := nodup_len _ _ o.nd fun v hv => Rch.lt ((o.mem v).mp hv)
  have hl := sm.1
  unfold dom_Order.f
  have hall : (next.all fun l => decide (l.length < 4611686018427387904)) = true := by
    apply List.all_eq_true.mpr
    intro l hl
    obtain ⟨i, hi, rfl⟩ := List.getElem_of_mem hl
    have := sm.2 i
    simp only [List.getD_eq_getElem?_getD, List.getElem?_eq_getElem hi, Option.getD_some] at this
    exact decide_eq_true (by omega)
  rw [if_pos ⟨by omega, hall⟩, e]
  simp only [Option.bind_some]
  rw [if_pos (by simp only [List.length_map]; omega)]
/-- What dom.Idom answers. -/
theorem idom_some (next : List (List Int)) (sm : Small next) (hn : 0 < next.length) : ∃ (K : Nat) (D : List Int), (∀ k, K ≤ k → dom_Idom.f k next = some D) ∧ D.length = next.length ∧
    (∀ v, v < next.length → (¬ Rch next v ∨ v = 0) → D.getD v 0 = -1) ∧ ∀ v, Rch next v → v ≠ 0 → ∃ m : Nat, D.getD v 0 = (m : Int) ∧ Rch next m ∧ m ≠ v ∧ ∀ x, Dm next x m ↔ Dm next x v ∧ x ≠ v := by
  obtain ⟨T, o, e⟩ := order_some next sm hn
  have hTl : (0 :: T).length ≤ next.length := nodup_len _ _ o.nd fun v hv => Rch.lt ((o.mem v).mp hv)
  have hl := sm.1
  obtain ⟨T1, P1, e1, tb⟩ := outerP_spec o sm (0 :: T) [] (List.replicate next.length (-1)) (List.replicate next.length []) rfl (by simp) (by simp) (by simp) (fun j hj p => by simp [List.getD_eq_getElem?_getD, hj]) (fun j => by
    by_cases hj : j < next.length <;> simp [List.getD_eq_getElem?_getD, hj])
  have hK : ∀ k, T.length * (T.length + 1) + 2 * T.length + 4 ≤ k → ∃ Df, roundsF k T1 P1 (T.map fun v : Nat => (v : Int)) k ((List.replicate next.length (-1)).set 0 0) = some Df ∧ Fin o Df := fun k hk => by
    generalize hq : T.length * (T.length + 1) = q at hk
    exact rounds_all o hn tb (by omega) (by rw [hq]; omega)
  generalize hq : T.length * (T.length + 1) + 2 * T.length + 4 = K0 at hK
  obtain ⟨Df, e2, f⟩ := hK K0 (Nat.le_refl _)
  have hf : ∀ k, idomF k next ((0 :: T).map fun v : Nat => (v : Int)) = (roundsF k T1 P1 (T.map fun v : Nat => (v : Int)) k ((List.replicate next.length (-1)).set 0 0)).map fun D => D.set 0 (-1) := by
    intro k
    unfold idomF
    rw [if_neg (by simp)]
    simp only [List.length_nil] at e1
    rw [e1]
    rfl
  have h1 : dom_Idom.f K0 next = some (Df.set 0 (-1)) := by
    unfold dom_Idom.f
    rw [if_pos (by omega), e]
    simp only [Option.bind_some]
    rw [hf, e2]
    rfl
  refine ⟨K0, Df.set 0 (-1), fun k hk => at_rounds (fun k => dom_Idom.mono next k) hk h1, by rw [List.length_set]; exact f.1.len, fun v hv h => ?_, fun v hv h0 => ?_⟩
  · rw [getD_set_ _ _ _ _ (by rw [f.1.len]; exact hn)]
    by_cases h0 : v = 0
    · rw [if_pos h0]
    · rw [if_neg h0]
      exact f.1.un v hv (h.resolve_right h0)
  · rw [getD_set_ _ _ _ _ (by rw [f.1.len]; exact hn), if_neg h0]
    have hm := f.1.inv.ch.dp v hv
    have hlt := f.1.inv.ch.lt v hv h0
    refine ⟨dOf Df v, by have := f.1.pos v hv; unfold dOf; omega, hm, fun e => by rw [e] at hlt; omega, fun x => ?_⟩
    rw [← fin_dom o hn f x _ hm, ← fin_dom o hn f x v hv]
    constructor
    · intro h
      refine ⟨.step h, ?_⟩
      rintro rfl
      rcases h.le f.1.inv.ch hm with e | e
      · rw [← e] at hlt; omega
      · omega
    · rintro ⟨h, hne⟩
      exact h.inv.resolve_left hne
end Go.Proofs.YtfiffhcpgojkhaaDoor.DomP
/- dom.Idom's answer with the order. No condition but that the graph is small. -/
namespace Go.Proofs.YtfiffhcpgojkhaaDoor.DomP
open Go.Proofs.YtfiffhcpgojkhaaDoor Go.Proofs.YtfiffhcpgojkhaaDoor.DomA Go.Proofs.YtfiffhcpgojkhaaDoor.DomF Go.Proofs.YtfiffhcpgojkhaaDoor.DomT Go.RowKit Go.Proofs.YtfiffhcpgojkhaaDoorW.PrintWords
set_option linter.unusedSimpArgs false
set_option linter.unusedVariables false
/-- What dom.Idom answers. -/
theorem idom_some2 (next : List (List Int)) (sm : Small next) (hn : 0 < next.length) : ∃ T, Ord next T ∧ dom_Order.f next = some ((0 :: T).map fun v : Nat => (v : Int)) ∧ ∃ (K : Nat) (D : List Int), (∀ k, K ≤ k → dom_Idom.f k next = some D) ∧ D.length = next.length ∧
    (∀ v, v < next.length → (¬ Rch next v ∨ v = 0) → D.getD v 0 = -1) ∧ ∀ v, Rch next v → v ≠ 0 → ∃ m : Nat, D.getD v 0 = (m : Int) ∧ Rch next m ∧ m ≠ v ∧ at_ T m < at_ T v ∧ ∀ x, Dm next x m ↔ Dm next x v ∧ x ≠ v := by
  obtain ⟨T, o, e⟩ := order_some next sm hn
  have hTl : (0 :: T).length ≤ next.length := nodup_len _ _ o.nd fun v hv => Rch.lt ((o.mem v).mp hv)
  have hl := sm.1
  obtain ⟨T1, P1, e1, tb⟩ := outerP_spec o sm (0 :: T) [] (List.replicate next.length (-1)) (List.replicate next.length []) rfl (by simp) (by simp) (by simp) (fun j hj p => by simp [List.getD_eq_getElem?_getD, hj]) (fun j => by
    by_cases hj : j < next.length <;> simp [List.getD_eq_getElem?_getD, hj])
  have hK : ∀ k, T.length * (T.length + 1) + 2 * T.length + 4 ≤ k → ∃ Df, roundsF k T1 P1 (T.map fun v : Nat => (v : Int)) k ((List.replicate next.length (-1)).set 0 0) = some Df ∧ Fin o Df := fun k hk => by
    generalize hq : T.length * (T.length + 1) = q at hk
    exact rounds_all o hn tb (by omega) (by rw [hq]; omega)
  generalize hq : T.length * (T.length + 1) + 2 * T.length + 4 = K0 at hK
  obtain ⟨Df, e2, f⟩ := hK K0 (Nat.le_refl _)
  have hf : ∀ k, idomF k next ((0 :: T).map fun v : Nat => (v : Int)) = (roundsF k T1 P1 (T.map fun v : Nat => (v : Int)) k ((List.replicate next.length (-1)).set 0 0)).map fun D => D.set 0 (-1) := by
    intro k
    unfold idomF
    rw [if_neg (by simp)]
    simp only [List.length_nil] at e1
    rw [e1]
    rfl
  have h1 : dom_Idom.f K0 next = some (Df.set 0 (-1)) := by
    unfold dom_Idom.f
    rw [if_pos (by omega), e]
    simp only [Option.bind_some]
    rw [hf, e2]
    rfl
  refine ⟨T, o, e, K0, Df.set 0 (-1), fun k hk => at_rounds (fun k => dom_Idom.mono next k) hk h1, by rw [List.length_set]; exact f.1.len, fun v hv h => ?_, fun v hv h0 => ?_⟩
  · rw [getD_set_ _ _ _ _ (by rw [f.1.len]; exact hn)]
    by_cases h0 : v = 0
    · rw [if_pos h0]
    · rw [if_neg h0]
      exact f.1.un v hv (h.resolve_right h0)
  · rw [getD_set_ _ _ _ _ (by rw [f.1.len]; exact hn), if_neg h0]
    have hm := f.1.inv.ch.dp v hv
    have hlt := f.1.inv.ch.lt v hv h0
    refine ⟨dOf Df v, by have := f.1.pos v hv; unfold dOf; omega, hm, fun e => by rw [e] at hlt; omega, hlt, fun x => ?_⟩
    rw [← fin_dom o hn f x _ hm, ← fin_dom o hn f x v hv]
    constructor
    · intro h
      refine ⟨.step h, ?_⟩
      rintro rfl
      rcases h.le f.1.inv.ch hm with e | e
      · rw [← e] at hlt; omega
      · omega
    · rintro ⟨h, hne⟩
      exact h.inv.resolve_left hne
end Go.Proofs.YtfiffhcpgojkhaaDoor.DomP
