/- Nearest dominators by rounds over an order, in plain words: what is kept at each step, and that the rounds end. No condition. -/
namespace Go.Proofs.Ytfiffhcpgojkhaa.DomT
set_option linter.unusedVariables false
/-- a is on the chain of b: one comes to it from b by d. -/
inductive C (d : Nat → Nat) : Nat → Nat → Prop
  | refl (a : Nat) : C d a a
  | step {a b : Nat} : C d a (d b) → C d a b
variable {d d' par at_ : Nat → Nat} {pr : Nat → Prop} {a b c x i j m : Nat}
theorem C.inv (h : C d a b) : a = b ∨ C d a (d b) := by
  cases h with
  | refl => exact Or.inl rfl
  | step h => exact Or.inr h
theorem C.trans (h : C d a b) (h2 : C d b c) : C d a c := by
  induction h2 with
  | refl => exact h
  | step _ ih => exact .step ih
theorem C.lin (h : C d a c) (h2 : C d b c) : C d a b ∨ C d b a := by
  induction h with
  | refl => exact Or.inr h2
  | step h1 ih =>
    rcases h2.inv with rfl | h3
    · exact Or.inl (.step h1)
    · exact ih h3
/-- A chain goes down to the root. -/
structure Ch (at_ : Nat → Nat) (pr : Nat → Prop) (d : Nat → Nat) : Prop where
  d0 : d 0 = 0
  p0 : pr 0
  dp : ∀ j, pr j → pr (d j)
  lt : ∀ j, pr j → j ≠ 0 → at_ (d j) < at_ j
theorem C.prd (hc : Ch at_ pr d) (h : C d a b) (hb : pr b) : pr a := by
  induction h with
  | refl => exact hb
  | step _ ih => exact ih (hc.dp _ hb)
theorem C.le (hc : Ch at_ pr d) (h : C d a b) (hb : pr b) : a = b ∨ at_ a < at_ b := by
  induction h with
  | refl => exact Or.inl rfl
  | @step b h1 ih =>
    by_cases h0 : b = 0
    · subst h0; rw [hc.d0] at ih; exact ih hb
    · have := hc.lt _ hb h0
      rcases ih (hc.dp _ hb) with h | h
      · right; rw [h]; exact this
      · right; omega
theorem C.root (h0 : d 0 = 0) (h : C d a 0) : a = 0 := by
  have key : ∀ b, C d a b → b = 0 → a = 0 := by
    intro b h
    induction h with
    | refl => exact id
    | step _ ih => intro e; subst e; exact ih h0
  exact key 0 h rfl
theorem C.of_le (hc : Ch at_ pr d) (ha : C d a c) (hb : C d b c) (hp : pr c) (hl : at_ a ≤ at_ b) : C d a b := by
  rcases ha.lin hb with h | h
  · exact h
  · rcases h.le hc (ha.prd hc hp) with h | h
    · subst h; exact .refl _
    · omega
theorem C.to_root (hc : Ch at_ pr d) : ∀ n, ∀ b, at_ b ≤ n → pr b → C d 0 b := by
  intro n
  induction n with
  | zero =>
    intro b hb hp
    by_cases h0 : b = 0
    · subst h0; exact .refl _
    · have := hc.lt b hp h0; omega
  | succ n ih =>
    intro b hb hp
    by_cases h0 : b = 0
    · subst h0; exact .refl _
    · have := hc.lt b hp h0; exact .step (ih _ (by omega) (hc.dp _ hp))
/-- Where two chains meet: the step. -/
theorem meet_step (hc : Ch at_ pr d) (hb : pr b) (hl : at_ b < at_ a) : (C d x a ∧ C d x b) ↔ (C d x (d a) ∧ C d x b) := by
  constructor
  · rintro ⟨h1, h2⟩
    rcases h1.inv with rfl | h
    · rcases h2.le hc hb with h | h
      · subst h; omega
      · omega
    · exact ⟨h, h2⟩
  · rintro ⟨h1, h2⟩; exact ⟨.step h1, h2⟩
def upd (d : Nat → Nat) (i m : Nat) : Nat → Nat := fun j => if j = i then m else d j
theorem upd_same : upd d i m i = m := by simp [upd]
theorem upd_ne (h : j ≠ i) : upd d i m j = d j := by simp [upd, h]
theorem C.far (h : ¬ C d i j) : C (upd d i m) x j ↔ C d x j := by
  constructor
  · intro hx
    induction hx with
    | refl => exact .refl _
    | @step j h1 ih =>
      have hj : j ≠ i := fun e => h (e ▸ .refl _)
      rw [upd_ne hj] at ih
      exact .step (ih fun h2 => h (.step h2))
  · intro hx
    induction hx with
    | refl => exact .refl _
    | @step j h1 ih =>
      have hj : j ≠ i := fun e => h (e ▸ .refl _)
      refine .step ?_
      rw [upd_ne hj]
      exact ih fun h2 => h (.step h2)
theorem C.ua (hx : C (upd d i m) x j) : C d x j ∨ (C d i j ∧ C d x m) := by
  induction hx with
  | refl => exact Or.inl (.refl _)
  | @step j h1 ih =>
    by_cases hj : j = i
    · subst hj
      rw [upd_same] at ih
      exact Or.inr ⟨.refl _, ih.elim id (·.2)⟩
    · rw [upd_ne hj] at ih
      rcases ih with h | ⟨h, h2⟩
      · exact Or.inl (.step h)
      · exact Or.inr ⟨.step h, h2⟩
theorem C.ub (hc : Ch at_ pr d) (hi : i ≠ 0) (hm : ¬ C d i m) (hx : C d x j) (hp : pr j) (h : C d i j → at_ x < at_ i → C d x m) : C (upd d i m) x j := by
  induction hx with
  | refl => exact .refl _
  | @step j h1 ih =>
    by_cases hj : j = i
    · subst hj
      refine .step ?_
      rw [upd_same]
      refine (C.far hm).mpr (h (.refl _) ?_)
      have := hc.lt _ hp hi
      rcases h1.le hc (hc.dp _ hp) with e | e
      · rw [e]; exact this
      · omega
    · refine .step ?_
      rw [upd_ne hj]
      exact ih (hc.dp _ hp) fun h2 => h (.step h2)
/-- A graph as it is walked: places in an order, each behind one of those ahead of it. -/
structure Gr (at_ par : Nat → Nat) (R : Nat → Prop) (pre : Nat → Nat → Prop) : Prop where
  r0 : R 0
  p0 : par 0 = 0
  parR : ∀ j, R j → R (par j)
  parL : ∀ j, R j → j ≠ 0 → at_ (par j) < at_ j
  parE : ∀ j, R j → j ≠ 0 → pre (par j) j
  preR : ∀ p j, pre p j → R p
variable {R : Nat → Prop} {pre : Nat → Nat → Prop}
theorem Gr.ch (g : Gr at_ par R pre) : Ch at_ R par := ⟨g.p0, g.r0, g.parR, g.parL⟩
/-- One comes from the root to j without x. -/
inductive Av (pre : Nat → Nat → Prop) (x : Nat) : Nat → Prop
  | root : 0 ≠ x → Av pre x 0
  | step {p j : Nat} : Av pre x p → pre p j → j ≠ x → Av pre x j
theorem dom_pre (h : ¬ Av pre x j) (hj : j ≠ x) {p : Nat} (hp : pre p j) : ¬ Av pre x p := fun ha => h (.step ha hp hj)
/-- What is kept at each step. -/
structure Inv (at_ par : Nat → Nat) (R : Nat → Prop) (pre : Nat → Nat → Prop) (pr : Nat → Prop) (d : Nat → Nat) : Prop where
  ch : Ch at_ pr d
  prR : ∀ j, pr j → R j
  q : ∀ x j, pr j → C d x j → C par x j
  i : ∀ x j, pr j → ¬ Av pre x j → C d x j
theorem dom_par (g : Gr at_ par R pre) (hi : R i) (hj : R j) (h : C par i j) (hx : at_ x < at_ i) (hd : ¬ Av pre x j) : ¬ Av pre x i := by
  induction h with
  | refl => exact hd
  | @step j h1 ih =>
    by_cases h0 : j = 0
    · subst h0; rw [g.p0] at ih; exact ih hj hd
    · have hne : j ≠ x := by
        rintro rfl
        rcases (C.step h1).le g.ch hj with e | e
        · subst e; omega
        · omega
      exact ih (g.parR _ hj) (dom_pre hd hne (g.parE _ hj h0))
/-- The new place's chain is what all its places ahead have in common. -/
def Meets (d : Nat → Nat) (pre : Nat → Nat → Prop) (pr : Nat → Prop) (i m : Nat) : Prop := ∀ x, C d x m ↔ ∀ p, pre p i → pr p → C d x p
theorem Inv.lt (g : Gr at_ par R pre) (v : Inv at_ par R pre pr d) (hi : i ≠ 0) (hR : R i) (hp : pr (par i)) (hm : Meets d pre pr i m) : C d m (par i) ∧ pr m ∧ at_ m < at_ i ∧ ¬ C d i m := by
  have h1 : C d m (par i) := (hm m).mp (.refl _) _ (g.parE _ hR hi) hp
  have h2 := h1.prd v.ch hp
  have h3 := g.parL _ hR hi
  have h4 : at_ m < at_ i := by
    rcases h1.le v.ch hp with e | e
    · rw [e]; exact h3
    · omega
  refine ⟨h1, h2, h4, fun h => ?_⟩
  rcases h.le v.ch h2 with e | e
  · subst e; omega
  · omega
theorem Inv.step (g : Gr at_ par R pre) (v : Inv at_ par R pre pr d) (hi : i ≠ 0) (hR : R i) (hp : pr (par i)) (hm : Meets d pre pr i m) :
    Inv at_ par R pre (fun j => pr j ∨ j = i) (upd d i m) := by
  obtain ⟨h1, h2, h3, h4⟩ := v.lt g hi hR hp hm
  have hd : ∀ x, ¬ Av pre x i → x ≠ i → C d x m := fun x hx hne => (hm x).mpr fun p hpi hpp => v.i x p hpp (dom_pre hx (Ne.symm hne) hpi)
  refine ⟨⟨?_, Or.inl v.ch.p0, ?_, ?_⟩, ?_, ?_, ?_⟩
  · rw [upd_ne (Ne.symm hi)]; exact v.ch.d0
  · intro j hj
    by_cases e : j = i
    · subst e; rw [upd_same]; exact Or.inl h2
    · rw [upd_ne e]; exact Or.inl (v.ch.dp _ (hj.resolve_right e))
  · intro j hj h0
    by_cases e : j = i
    · subst e; rw [upd_same]; exact h3
    · rw [upd_ne e]; exact v.ch.lt _ (hj.resolve_right e) h0
  · rintro j (hj | rfl)
    · exact v.prR _ hj
    · exact hR
  · intro x j hj hx
    have key : ∀ x, C d x m → C par x i := fun x hx => .step (v.q _ _ hp (hx.trans h1))
    by_cases e : j = i
    · subst e
      rcases hx.inv with rfl | hx
      · exact .refl _
      · rw [upd_same] at hx
        exact key x ((C.far h4).mp hx)
    · have hj := hj.resolve_right e
      rcases hx.ua with h | ⟨h, h'⟩
      · exact v.q _ _ hj h
      · exact (key x h').trans (v.q _ _ hj h)
  · intro x j hj hx
    by_cases e : j = i
    · subst e
      by_cases e2 : x = j
      · subst e2; exact .refl _
      · refine .step ?_
        rw [upd_same]
        exact (C.far h4).mpr (hd x hx e2)
    · have hj := hj.resolve_right e
      refine C.ub v.ch hi h4 (v.i x j hj hx) hj fun hij hlt => hd x ?_ (by rintro rfl; omega)
      exact dom_par g hR (v.prR _ hj) (v.q _ _ hj hij) hlt hx
/-- At the end a chain is what dominates. -/
theorem dom_of_chain (h0 : d 0 = 0) (hf : ∀ j, j ≠ 0 → ∀ p, pre p j → ∀ x, C d x (d j) → C d x p) (h : Av pre x j) : ¬ C d x j := by
  induction h with
  | root hne => exact fun h => hne (h.root h0).symm
  | @step p j h1 hp hne ih =>
    intro hc
    rcases hc.inv with rfl | hc
    · exact hne rfl
    · by_cases e : j = 0
      · subst e; rw [h0] at hc; exact hne (hc.root h0).symm
      · exact ih (hf j e p hp x hc)
/-- What the first round leaves, up to a place in the order. -/
structure Fst (at_ par : Nat → Nat) (R : Nat → Prop) (pre : Nat → Nat → Prop) (d : Nat → Nat) (k : Nat) : Prop where
  b : ∀ i, R i → i ≠ 0 → at_ i < k → C d (d i) (par i)
  c : ∀ i, R i → i ≠ 0 → at_ i < k → ∀ x, (∀ p, pre p i → at_ p < at_ i → C d x p) → C d x (d i)
/-- What a later round keeps, up to a place in the order. -/
structure Nxt (at_ par : Nat → Nat) (R : Nat → Prop) (pre : Nat → Nat → Prop) (d0 d : Nat → Nat) (k : Nat) : Prop where
  a : ∀ x j, R j → C d x j → C d0 x j
  b : ∀ i, R i → i ≠ 0 → at_ i < k → C d (d i) (par i)
  c : ∀ i, R i → i ≠ 0 → at_ i < k → ∀ x, (∀ p, pre p i → C d x p) → C d x (d i)
  e : ∀ i, R i → k ≤ at_ i → d i = d0 i
theorem same_below (hc : Ch at_ pr d) (hj : pr j) (hl : at_ j < at_ i) : C (upd d i m) x j ↔ C d x j := by
  refine C.far fun h => ?_
  rcases h.le hc hj with e | e
  · subst e; omega
  · omega
theorem Fst.step (g : Gr at_ par R pre) (inj : ∀ i j, R i → R j → at_ i = at_ j → i = j) (v : Inv at_ par R pre (fun j => R j ∧ at_ j < at_ i) d) (f : Fst at_ par R pre d (at_ i)) (hi : i ≠ 0) (hR : R i)
    (hm : Meets d pre (fun j => R j ∧ at_ j < at_ i) i m) : Fst at_ par R pre (upd d i m) (at_ i + 1) := by
  have hp : R (par i) ∧ at_ (par i) < at_ i := ⟨g.parR _ hR, g.parL _ hR hi⟩
  obtain ⟨h1, h2, h3, h4⟩ := v.lt g hi hR hp hm
  refine ⟨fun k hk k0 hl => ?_, fun k hk k0 hl x hx => ?_⟩
  · by_cases e : k = i
    · subst e; rw [upd_same]; exact (same_below v.ch hp hp.2).mpr h1
    · have hl2 : at_ k < at_ i := by
        have : at_ k ≠ at_ i := fun h => e (inj _ _ hk hR h)
        omega
      have hq := g.parL _ hk k0
      rw [upd_ne e]
      exact (same_below v.ch ⟨g.parR _ hk, by omega⟩ (by omega)).mpr (f.b k hk k0 hl2)
  · by_cases e : k = i
    · subst e
      rw [upd_same]
      refine (same_below v.ch h2 h3).mpr ((hm x).mpr fun p hp2 hp3 => (same_below v.ch hp3 hp3.2).mp (hx p hp2 hp3.2))
    · have hl2 : at_ k < at_ i := by
        have : at_ k ≠ at_ i := fun h => e (inj _ _ hk hR h)
        omega
      have hq := v.ch.lt k ⟨hk, hl2⟩ k0
      have hq2 := v.ch.dp k ⟨hk, hl2⟩
      rw [upd_ne e]
      refine (same_below v.ch hq2 hq2.2).mpr (f.c k hk k0 hl2 x fun p hp2 hp3 => ?_)
      have hpR := g.preR _ _ hp2
      exact (same_below v.ch ⟨hpR, by omega⟩ (by omega)).mp (hx p hp2 hp3)
/-- An ancestor of a place, on whose chain a place ahead of it is. -/
theorem anc_chain (g : Gr at_ par R pre) {k y : Nat} (hb : ∀ i, R i → i ≠ 0 → at_ i < k → C d (d i) (par i)) (h : C par y j) (hj : R j) (hk : at_ j < k) (hc : Ch at_ R d) (hx : C d x j) (hl : at_ x ≤ at_ y) (hy : R y) : C d x y := by
  induction h with
  | refl => exact hx
  | @step j h1 ih =>
    by_cases h0 : j = 0
    · subst h0; rw [g.p0] at ih; exact ih hj hk hx
    · have hlt := g.parL _ hj h0
      have hle : at_ y ≤ at_ (par j) := by
        rcases h1.le g.ch (g.parR _ hj) with e | e
        · rw [e]; exact Nat.le_refl _
        · omega
      rcases hx.inv with rfl | hx
      · omega
      · exact ih (g.parR _ hj) (by omega) (hx.trans (hb _ hj h0 hk))
theorem Nxt.best (g : Gr at_ par R pre) {d0 : Nat → Nat} (v0 : Inv at_ par R pre R d0) (c0 : ∀ i, R i → i ≠ 0 → ∀ x, (∀ p, pre p i → C d0 x p) → C d0 x (d0 i)) (v : Inv at_ par R pre R d) (f : Nxt at_ par R pre d0 d (at_ i)) (hi : i ≠ 0) (hR : R i)
    (hm : Meets d pre R i m) : C d m (d i) := by
  have hp := g.parR _ hR
  obtain ⟨h1, h2, h3, h4⟩ := v.lt g hi hR hp hm
  have e := f.e i hR (Nat.le_refl _)
  rw [e]
  have q0 : C d0 m (d0 i) := c0 i hR hi m fun p hp2 => f.a _ _ (g.preR _ _ hp2) ((hm m).mp (.refl _) p hp2 (g.preR _ _ hp2))
  have l0 : at_ m ≤ at_ (d0 i) := by
    rcases q0.le v0.ch (v0.ch.dp _ hR) with e | e
    · rw [e]; exact Nat.le_refl _
    · omega
  have hlt := v0.ch.lt i hR hi
  have t0 : C par (d0 i) (par i) := by
    rcases (v0.q (d0 i) i hR (.step (.refl _))).inv with e | e
    · rw [e] at hlt; omega
    · exact e
  exact anc_chain g f.b t0 hp (g.parL _ hR hi) v.ch h1 l0 (v0.ch.dp _ hR)
theorem Nxt.step (g : Gr at_ par R pre) (inj : ∀ i j, R i → R j → at_ i = at_ j → i = j) {d0 : Nat → Nat} (v0 : Inv at_ par R pre R d0) (c0 : ∀ i, R i → i ≠ 0 → ∀ x, (∀ p, pre p i → C d0 x p) → C d0 x (d0 i)) (v : Inv at_ par R pre R d) (f : Nxt at_ par R pre d0 d (at_ i)) (hi : i ≠ 0) (hR : R i)
    (hm : Meets d pre R i m) : Nxt at_ par R pre d0 (upd d i m) (at_ i + 1) := by
  have hp := g.parR _ hR
  have hb := f.best g v0 c0 v hi hR hm
  obtain ⟨h1, h2, h3, h4⟩ := v.lt g hi hR hp hm
  have ha : ∀ x j, R j → C (upd d i m) x j → C d x j := by
    intro x j hj hx
    rcases hx.ua with h | ⟨h, h'⟩
    · exact h
    · exact (C.step (h'.trans hb)).trans h
  refine ⟨fun x j hj hx => f.a _ _ hj (ha x j hj hx), fun k hk k0 hl => ?_, fun k hk k0 hl x hx => ?_, fun k hk hl => ?_⟩
  · by_cases e : k = i
    · subst e; rw [upd_same]; exact (same_below v.ch hp (g.parL _ hR hi)).mpr h1
    · have hl2 : at_ k < at_ i := by
        have : at_ k ≠ at_ i := fun h => e (inj _ _ hk hR h)
        omega
      have hq := g.parL _ hk k0
      rw [upd_ne e]
      exact (same_below v.ch (g.parR _ hk) (by omega)).mpr (f.b k hk k0 hl2)
  · by_cases e : k = i
    · subst e
      rw [upd_same]
      exact (same_below v.ch h2 h3).mpr ((hm x).mpr fun p hp2 _ => ha _ _ (g.preR _ _ hp2) (hx p hp2))
    · have hl2 : at_ k < at_ i := by
        have : at_ k ≠ at_ i := fun h => e (inj _ _ hk hR h)
        omega
      have hq := v.ch.lt k hk k0
      rw [upd_ne e]
      exact (same_below v.ch (v.ch.dp _ hk) (by omega)).mpr (f.c k hk k0 hl2 x fun p hp2 => ha _ _ (g.preR _ _ hp2) (hx p hp2))
  · have e : k ≠ i := by rintro rfl; omega
    rw [upd_ne e]
    exact f.e k hk (by omega)
end Go.Proofs.Ytfiffhcpgojkhaa.DomT
