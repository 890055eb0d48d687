/- Intervals of a graph, in plain words: what they are, that a graph has a circle of forward edges just if the graph of its intervals has one, and that one without such a circle has fewer intervals than places. No condition. -/
import Derived.Test.YtfiffhcpgojkhaaDomT
namespace Go.Proofs.Ytfiffhcpgojkhaa.IntT
open Go.Proofs.Ytfiffhcpgojkhaa.DomT
set_option linter.unusedVariables false
/-- One step or more. -/
inductive T {A : Type} (F : A → A → Prop) : A → A → Prop
  | one {a b : A} : F a b → T F a b
  | more {a b c : A} : T F a b → F b c → T F a c
theorem T.trans {A : Type} {F : A → A → Prop} {a b c : A} (h : T F a b) (h2 : T F b c) : T F a c := by
  induction h2 with
  | one h3 => exact .more h h3
  | more _ h3 ih => exact .more ih h3
theorem T.imp {A : Type} {F G : A → A → Prop} (hFG : ∀ a b, F a b → G a b) {a b : A} (h : T F a b) : T G a b := by
  induction h with
  | one h3 => exact .one (hFG _ _ h3)
  | more _ h3 ih => exact .more ih (hFG _ _ h3)
/-- Of finitely many there is one that none is behind. -/
theorem fin_max {Q : Nat → Nat → Prop} (tr : ∀ a b c, Q a b → Q b c → Q a c) (irr : ∀ a, ¬ Q a a) : ∀ (n : Nat) (P : Nat → Prop), (∀ x, P x → x < n) → (∃ x, P x) → ∃ x, P x ∧ ∀ y, P y → ¬ Q x y := by
  intro n
  induction n with
  | zero => intro P hP hx; obtain ⟨x, hx⟩ := hx; exact absurd (hP x hx) (Nat.not_lt_zero _)
  | succ n ih =>
    intro P hP hx
    by_cases hn : P n
    · by_cases he : ∃ x, P x ∧ x < n
      · obtain ⟨x, hx, hm⟩ := ih (fun x => P x ∧ x < n) (fun x h => h.2) he
        by_cases hq : Q x n
        · refine ⟨n, hn, fun y hy hny => ?_⟩
          have hyn := hP y hy
          by_cases e : y = n
          · subst e; exact irr _ hny
          · exact hm y ⟨hy, by omega⟩ (tr _ _ _ hq hny)
        · refine ⟨x, hx.1, fun y hy hxy => ?_⟩
          have hyn := hP y hy
          by_cases e : y = n
          · subst e; exact hq hxy
          · exact hm y ⟨hy, by omega⟩ hxy
      · refine ⟨n, hn, fun y hy hny => ?_⟩
        have hyn := hP y hy
        by_cases e : y = n
        · subst e; exact irr _ hny
        · exact he ⟨y, hy, by omega⟩
    · exact ih P (fun x h => by
        have := hP x h
        have : x ≠ n := fun e => hn (e ▸ h)
        omega) hx
variable {R : Nat → Prop} {pre : Nat → Nat → Prop}
/-- A graph: its reached places. -/
structure G (R : Nat → Prop) (pre : Nat → Nat → Prop) : Prop where
  r0 : R 0
  preL : ∀ p j, pre p j → R p
  preR : ∀ p j, pre p j → R j
  rch : ∀ P : Nat → Prop, P 0 → (∀ p j, P p → pre p j → P j) → ∀ x, R x → P x
theorem G.pred (g : G R pre) {y : Nat} (h : R y) : y = 0 ∨ ∃ p, p ≠ y ∧ pre p y := by
  refine g.rch (fun y => y = 0 ∨ ∃ p, p ≠ y ∧ pre p y) (.inl rfl) (fun p j hp he => ?_) y h
  by_cases e : p = j
  · subst e; exact hp
  · exact .inr ⟨p, e, he⟩
theorem av_self {x : Nat} : ¬ Av pre x x := by
  intro h
  cases h with
  | root h => exact h rfl
  | step _ _ h => exact h rfl
theorem G.anti (g : G R pre) {x y : Nat} (hne : x ≠ y) (hy : R y) : Av pre x y ∨ Av pre y x := by
  have key : ∀ z, R z → (Av pre x z ∧ Av pre y z) ∨ Av pre x y ∨ Av pre y x := by
    refine g.rch _ ?_ ?_
    · by_cases e1 : 0 = x
      · exact .inr (.inr (e1 ▸ .root (fun e => hne (e1.symm.trans e))))
      · by_cases e2 : 0 = y
        · exact .inr (.inl (e2 ▸ .root e1))
        · exact .inl ⟨.root e1, .root e2⟩
    · intro p j hp he
      rcases hp with ⟨h1, h2⟩ | h | h
      · by_cases e1 : j = x
        · subst e1; exact .inr (.inr (.step h2 he hne))
        · by_cases e2 : j = y
          · subst e2; exact .inr (.inl (.step h1 he e1))
          · exact .inl ⟨.step h1 he e1, .step h2 he e2⟩
      · exact .inr (.inl h)
      · exact .inr (.inr h)
  rcases key y hy with ⟨_, h⟩ | h
  · exact absurd h av_self
  · exact h
/-- x dominates z if it dominates one that does. -/
theorem G.dom_trans (g : G R pre) {x y z : Nat} (h : ¬ Av pre x y) (h2 : ¬ Av pre y z) : ¬ Av pre x z := by
  intro ha
  have key : ∀ z, Av pre x z → Av pre x y ∨ Av pre y z := by
    intro z hz
    induction hz with
    | root h0 =>
      by_cases e : 0 = y
      · exact .inl (e ▸ .root h0)
      · exact .inr (.root e)
    | @step p j hp he hj ih =>
      rcases ih with h | h
      · exact .inl h
      · by_cases e : j = y
        · subst e; exact .inl (.step hp he hj)
        · exact .inr (.step h he e)
  rcases key z ha with e | e
  · exact h e
  · exact h2 e
/-- A forward edge: it goes to a place that does not dominate the one from which it goes. -/
def F (pre : Nat → Nat → Prop) (p j : Nat) : Prop := pre p j ∧ Av pre j p
def Cyc (pre : Nat → Nat → Prop) : Prop := ∃ x, T (F pre) x x
/-- The intervals. -/
structure Iv (R : Nat → Prop) (pre : Nat → Nat → Prop) (m : Nat) (hd ix rk : Nat → Nat) : Prop where
  ixm : ∀ x, R x → ix x < m
  hdR : ∀ a, a < m → R (hd a) ∧ ix (hd a) = a
  hd0 : hd 0 = 0
  inn : ∀ x p, R x → x ≠ hd (ix x) → pre p x → ix p = ix x ∧ (p = x ∨ rk p < rk x)
  ear : ∀ a, a < m → a ≠ 0 → ∃ p, pre p (hd a) ∧ ix p < a
  mx : ∀ a b, a < b → b < m → ¬ ∀ p, pre p (hd b) → p ≠ hd b → ix p = a
/-- The next graph. -/
def pre' (m : Nat) (hd ix : Nat → Nat) (pre : Nat → Nat → Prop) (a b : Nat) : Prop := a < m ∧ b < m ∧ a ≠ b ∧ ∃ x, pre x (hd b) ∧ ix x = a
section
variable {m : Nat} {hd ix rk : Nat → Nat}
theorem Iv.ix0 (v : Iv R pre m hd ix rk) (g : G R pre) : 0 < m ∧ ix 0 = 0 := by
  have h := v.ixm 0 g.r0
  have h2 : 0 < m := by omega
  refine ⟨h2, ?_⟩
  have := (v.hdR 0 h2).2
  rwa [v.hd0] at this
theorem Iv.nx (v : Iv R pre m hd ix rk) (g : G R pre) : G (fun a => a < m) (pre' m hd ix pre) where
  r0 := (v.ix0 g).1
  preL := fun p j h => h.1
  preR := fun p j h => h.2.1
  rch := by
    intro P h0 hs x
    induction x using Nat.strongRecOn with
    | ind x ih =>
      intro hx
      by_cases e : x = 0
      · subst e; exact h0
      · obtain ⟨p, hp, hl⟩ := v.ear x hx e
        have hpm := v.ixm p (g.preL _ _ hp)
        exact hs (ix p) x (ih _ hl hpm) ⟨hpm, hx, by omega, p, hp, rfl⟩
theorem Iv.b1 (v : Iv R pre m hd ix rk) (g : G R pre) {b p : Nat} (hb : b < m) (h : Av pre (hd b) p) : R p ∧ Av (pre' m hd ix pre) b (ix p) := by
  induction h with
  | root h0 =>
    refine ⟨g.r0, ?_⟩
    rw [(v.ix0 g).2]
    exact .root fun e => h0 (by rw [← e, v.hd0])
  | @step p j hp he hj ih =>
    have hRj := g.preR _ _ he
    refine ⟨hRj, ?_⟩
    by_cases e : ix p = ix j
    · rw [← e]; exact ih.2
    · have hh : j = hd (ix j) := Classical.byContradiction fun hn => e (v.inn j p hRj hn he).1
      refine .step ih.2 ⟨v.ixm _ ih.1, v.ixm _ hRj, e, p, by rw [← hh]; exact he, rfl⟩ fun e2 => hj (by rw [← e2]; exact hh)
theorem Iv.b0 (v : Iv R pre m hd ix rk) (g : G R pre) {p : Nat} (hp : R p) : ¬ Av pre (hd (ix p)) p := fun h => av_self (v.b1 g (v.ixm p hp) h).2
theorem Iv.fwd (v : Iv R pre m hd ix rk) (g : G R pre) {p j : Nat} (h : F pre p j) : (ix p = ix j ∧ rk p < rk j) ∨ F (pre' m hd ix pre) (ix p) (ix j) := by
  have hRp := g.preL _ _ h.1
  have hRj := g.preR _ _ h.1
  by_cases hh : j = hd (ix j)
  · have hb := v.b1 g (v.ixm j hRj) (by rw [← hh]; exact h.2)
    by_cases e : ix p = ix j
    · rw [← e] at hb
      exact absurd hb.2 av_self
    · exact .inr ⟨⟨v.ixm _ hRp, v.ixm _ hRj, e, p, by rw [← hh]; exact h.1, rfl⟩, hb.2⟩
  · obtain ⟨e, h2⟩ := v.inn j p hRj hh h.1
    rcases h2 with h2 | h2
    · subst h2; exact absurd h.2 av_self
    · exact .inl ⟨e, h2⟩
theorem Iv.cyc1 (v : Iv R pre m hd ix rk) (g : G R pre) (h : Cyc pre) : Cyc (pre' m hd ix pre) := by
  obtain ⟨x, h⟩ := h
  have key : ∀ a b, T (F pre) a b → (ix a = ix b ∧ rk a < rk b) ∨ T (F (pre' m hd ix pre)) (ix a) (ix b) := by
    intro a b h
    induction h with
    | one h =>
      rcases v.fwd g h with h | h
      · exact .inl h
      · exact .inr (.one h)
    | more _ h ih =>
      rcases v.fwd g h with h | h
      · rcases ih with ih | ih
        · exact .inl ⟨ih.1.trans h.1, by omega⟩
        · exact .inr (h.1 ▸ ih)
      · rcases ih with ih | ih
        · exact .inr (ih.1 ▸ .one h)
        · exact .inr (.more ih h)
  rcases key x x h with h | h
  · exact absurd h.2 (Nat.lt_irrefl _)
  · exact ⟨_, h⟩
theorem Iv.b3 (v : Iv R pre m hd ix rk) (g : G R pre) {z a : Nat} (hz : ix z ≠ a) (h : Av pre z (hd a)) : ∀ n y, rk y ≤ n → R y → ix y = a → Av pre z y := by
  intro n
  induction n using Nat.strongRecOn with
  | ind n ih =>
    intro y hn hy hi
    by_cases e : y = hd (ix y)
    · rw [e, hi]; exact h
    · rcases g.pred hy with h0 | ⟨p, hpy, hp⟩
      · subst h0
        exact absurd (by rw [(v.ix0 g).2, v.hd0]) e
      · obtain ⟨h1, h2⟩ := v.inn y p hy e hp
        rcases h2 with h2 | h2
        · exact absurd h2 hpy
        · exact .step (ih (rk p) (by omega) p (Nat.le_refl _) (g.preL _ _ hp) (h1.trans hi)) hp fun e2 => hz (e2 ▸ hi)
theorem Iv.b2 (v : Iv R pre m hd ix rk) (g : G R pre) {a b : Nat} (hb : b < m) (h : Av (pre' m hd ix pre) b a) : ∀ y, R y → ix y = a → Av pre (hd b) y := by
  induction h with
  | root h0 =>
    intro y hy hi
    refine v.b3 g (a := 0) (by rw [(v.hdR b hb).2]; exact fun e => h0 e.symm) ?_ _ y (Nat.le_refl _) hy hi
    rw [v.hd0]
    refine .root fun e => h0 ?_
    have h2 := (v.hdR b hb).2
    rw [← e, (v.ix0 g).2] at h2
    exact h2
  | @step p j hp he hj ih =>
    intro y hy hi
    obtain ⟨_, hjm, hne, x, hx, hxi⟩ := he
    refine v.b3 g (a := j) (by rw [(v.hdR b hb).2]; exact fun e => hj e.symm) (.step (ih x (g.preL _ _ hx) hxi) hx fun e => hj ?_) _ y (Nat.le_refl _) hy hi
    rw [← (v.hdR j hjm).2, e, (v.hdR b hb).2]
theorem Iv.b5 (v : Iv R pre m hd ix rk) (g : G R pre) {y : Nat} (hy : R y) (hn : y ≠ hd (ix y)) : ∀ n p, rk p ≤ n → R p → ix p = ix y → (p = hd (ix y) ∨ rk p < rk y) → Av pre y p := by
  intro n
  induction n using Nat.strongRecOn with
  | ind n ih =>
    intro p hpn hp hi hl
    by_cases e : p = hd (ix y)
    · subst e
      rcases g.anti (x := y) (y := hd (ix y)) hn hp with h | h
      · exact h
      · exact absurd h (v.b0 g hy)
    · have hl2 : rk p < rk y := by
        rcases hl with h | h
        · exact absurd h e
        · exact h
      rcases g.pred hp with h0 | ⟨q, hqp, hq⟩
      · subst h0
        refine absurd ?_ e
        rw [← hi, (v.ix0 g).2, v.hd0]
      · obtain ⟨h1, h2⟩ := v.inn p q hp (by rw [hi]; exact e) hq
        rcases h2 with h2 | h2
        · exact absurd h2 hqp
        · exact .step (ih (rk q) (by omega) q (Nat.le_refl _) (g.preL _ _ hq) (h1.trans hi) (.inr (by omega))) hq fun e2 => by subst e2; omega
theorem Iv.b4 (v : Iv R pre m hd ix rk) (g : G R pre) : ∀ n y, rk y ≤ n → R y → y = hd (ix y) ∨ T (F pre) (hd (ix y)) y := by
  intro n
  induction n using Nat.strongRecOn with
  | ind n ih =>
    intro y hn hy
    by_cases e : y = hd (ix y)
    · exact .inl e
    · rcases g.pred hy with h0 | ⟨p, hpy, hp⟩
      · subst h0
        exact absurd (by rw [(v.ix0 g).2, v.hd0]) e
      · obtain ⟨h1, h2⟩ := v.inn y p hy e hp
        rcases h2 with h2 | h2
        · exact absurd h2 hpy
        · have hRp := g.preL _ _ hp
          have hF : F pre p y := ⟨hp, v.b5 g hy e _ p (Nat.le_refl _) hRp h1 (.inr h2)⟩
          right
          rcases ih (rk p) (by omega) p (Nat.le_refl _) hRp with h3 | h3
          · rw [← h1, ← h3]; exact .one hF
          · rw [← h1]; exact .more h3 hF
theorem Iv.cyc2 (v : Iv R pre m hd ix rk) (g : G R pre) (h : Cyc (pre' m hd ix pre)) : Cyc pre := by
  have one : ∀ a b, F (pre' m hd ix pre) a b → T (F pre) (hd a) (hd b) := by
    rintro a b ⟨⟨ha, hb, hne, x, hx, hxi⟩, hav⟩
    have hRx := g.preL _ _ hx
    have hF : F pre x (hd b) := ⟨hx, v.b2 g hb hav x hRx hxi⟩
    rcases v.b4 g _ x (Nat.le_refl _) hRx with h | h
    · rw [← hxi, ← h]; exact .one hF
    · rw [← hxi]; exact .more h hF
  have key : ∀ a b, T (F (pre' m hd ix pre)) a b → T (F pre) (hd a) (hd b) := by
    intro a b h
    induction h with
    | one h => exact one _ _ h
    | more _ h ih => exact ih.trans (one _ _ h)
  obtain ⟨a, h⟩ := h
  exact ⟨_, key a a h⟩
/-- A graph has a circle of forward edges just if the next one has. -/
theorem Iv.cyc (v : Iv R pre m hd ix rk) (g : G R pre) : Cyc (pre' m hd ix pre) ↔ Cyc pre := ⟨v.cyc2 g, v.cyc1 g⟩
/-- Without such a circle, and if each place is an interval, there is one place. -/
theorem Iv.single (v : Iv R pre m hd ix rk) (g : G R pre) {n : Nat} (hn : ∀ x, R x → x < n) (ha : ¬ Cyc pre) (hs : ∀ x, R x → x = hd (ix x)) : ∀ x, R x → x = 0 := by
  intro x hx
  refine Classical.byContradiction fun hx0 => ?_
  have sd_tr : ∀ a b c, (R c ∧ b ≠ c ∧ ¬ Av pre b c ∧ R b ∧ a ≠ b ∧ ¬ Av pre a b) → a ≠ c ∧ ¬ Av pre a c := by
    rintro a b c ⟨hc, h1, h2, hb, h3, h4⟩
    refine ⟨fun e => ?_, g.dom_trans h4 h2⟩
    subst e
    rcases g.anti h3 hb with h | h
    · exact h4 h
    · exact h2 h
  have d0 : ∀ y, R y → ¬ Av pre 0 y := by
    intro y hy
    have h := v.b0 g hy
    intro h2
    have hno : ∀ z, Av pre 0 z → False := by
      intro z hz
      induction hz with
      | root h => exact h rfl
      | step _ _ _ ih => exact ih
    exact hno y h2
  obtain ⟨w0, ⟨hw0R, hw0S, u0, hu0R, hu0n, hu0⟩, hmax⟩ := fin_max (Q := fun a b => R a ∧ R b ∧ a ≠ b ∧ ¬ Av pre a b) (fun a b c h1 h2 => ⟨h1.1, h2.2.1, sd_tr a b c ⟨h2.2.1, h2.2.2.1, h2.2.2.2, h2.1, h1.2.2.1, h1.2.2.2⟩⟩) (fun a h => h.2.2.1 rfl) n
    (fun v => R v ∧ (v = 0 ∨ ∃ u, u ≠ v ∧ pre u v ∧ ¬ Av pre v u) ∧ ∃ u, R u ∧ v ≠ u ∧ ¬ Av pre v u) (fun v h => hn v h.1) ⟨0, g.r0, .inl rfl, x, hx, fun e => hx0 e.symm, d0 x hx⟩
  obtain ⟨w, ⟨hwR, hwn, hw⟩, hmin⟩ := fin_max (Q := fun a b => T (F pre) b a) (fun a b c h1 h2 => h2.trans h1) (fun a h => ha ⟨a, h⟩) n
    (fun w => R w ∧ w0 ≠ w ∧ ¬ Av pre w0 w) (fun w h => hn w h.1) ⟨u0, hu0R, hu0n, hu0⟩
  have hall : ∀ p, pre p w → p ≠ w → p = w0 := by
    intro p hp hpw
    have hRp := g.preL _ _ hp
    by_cases hd : Av pre w p
    · refine Classical.byContradiction fun hne => ?_
      exact hmin p ⟨hRp, fun e => hne e.symm, dom_pre hw (fun e => hwn e.symm) hp⟩ (.one ⟨hp, hd⟩)
    · exact absurd ⟨hw0R, hwR, hwn, hw⟩ (hmax w ⟨hwR, .inr ⟨p, hpw, hp, hd⟩, p, hRp, fun e => hpw e.symm, hd⟩)
  have hw_0 : w ≠ 0 := by
    intro e
    subst e
    exact hw (.root fun e => hwn e.symm)
  have hiw : ix w ≠ 0 := fun e => hw_0 (by rw [hs w hwR, e, v.hd0])
  obtain ⟨p, hp, hl⟩ := v.ear (ix w) (v.ixm w hwR) hiw
  rw [← hs w hwR] at hp
  have hpw : p ≠ w := fun e => by subst e; omega
  have e := hall p hp hpw
  subst e
  refine v.mx (ix p) (ix w) hl (v.ixm w hwR) ?_
  rw [← hs w hwR]
  intro q hq hqw
  rw [hall q hq hqw]
end
end Go.Proofs.Ytfiffhcpgojkhaa.IntT
/- The intervals of a graph, as they are made one behind the other; plain. No condition. -/
namespace Go.Proofs.Ytfiffhcpgojkhaa.IntU
open Go.Proofs.Ytfiffhcpgojkhaa.DomT Go.Proofs.Ytfiffhcpgojkhaa.IntT
set_option linter.unusedVariables false
set_option linter.unusedSectionVars false
section
variable (n : Nat) (R : Nat → Prop) (pre : Nat → Nat → Prop)
/-- What is in the interval of h behind k passes. -/
def Ik (tk : Nat → Prop) (h : Nat) : Nat → Nat → Prop
 | 0, x => x = h
 | k + 1, x => Ik tk h k x ∨ (x ≠ 0 ∧ R x ∧ ¬ tk x ∧ ∀ p, pre p x → p ≠ x → Ik tk h k p)
def In (tk : Nat → Prop) (h x : Nat) : Prop := ∃ k, Ik R pre tk h k x
open Classical in
noncomputable def ivl (tk : Nat → Prop) (h : Nat) : List Nat := h :: (List.range n).filter fun x => decide (In R pre tk h x ∧ x ≠ h)
def Hd (tk : Nat → Prop) (i : Nat) : Prop := R i ∧ ¬ tk i ∧ ∃ p, pre p i ∧ tk p
open Classical in
noncomputable def hdo (tk : Nat → Prop) : Option Nat := (List.range n).find? fun i => decide (Hd R pre tk i)
def Tk (L : List (List Nat)) (x : Nat) : Prop := ∃ l, l ∈ L ∧ x ∈ l
inductive Run : List (List Nat) → Option Nat → List (List Nat) → Prop
 | done (L : List (List Nat)) : Run L none L
 | more {L L2 : List (List Nat)} {h : Nat} : Run (L ++ [ivl n R pre (Tk L) h]) (hdo n R pre (Tk (L ++ [ivl n R pre (Tk L) h]))) L2 → Run L (some h) L2
end
section
open Classical
variable {n : Nat} {R : Nat → Prop} {pre : Nat → Nat → Prop} {tk : Nat → Prop} {h x : Nat} {L : List (List Nat)}
theorem Ik.mono {k : Nat} (hk : Ik R pre tk h k x) : ∀ j, Ik R pre tk h (k + j) x
 | 0 => hk
 | j + 1 => .inl (Ik.mono hk j)
theorem Ik.le {k j : Nat} (hk : Ik R pre tk h k x) (hl : k ≤ j) : Ik R pre tk h j x := by
  have := hk.mono (j - k)
  rwa [show k + (j - k) = j by omega] at this
theorem fin_bound {P : Nat → Prop} {Q : Nat → Nat → Prop} (mono : ∀ k j x, k ≤ j → Q k x → Q j x) : ∀ n, (∀ p, p < n → P p → ∃ k, Q k p) → ∃ K, ∀ p, p < n → P p → Q K p := by
  intro n
  induction n with
  | zero => intro _; exact ⟨0, fun p hp => absurd hp (Nat.not_lt_zero _)⟩
  | succ n ih =>
    intro hh
    obtain ⟨K, hK⟩ := ih fun p hp => hh p (by omega)
    by_cases hP : P n
    · obtain ⟨k, hk⟩ := hh n (by omega) hP
      refine ⟨K + k, fun p hp hPp => ?_⟩
      by_cases e : p = n
      · subst e; exact mono _ _ _ (by omega) hk
      · exact mono _ _ _ (by omega) (hK p (by omega) hPp)
    · refine ⟨K, fun p hp hPp => ?_⟩
      have : p ≠ n := fun e => hP (e ▸ hPp)
      exact hK p (by omega) hPp
theorem In.closed (hn : ∀ p j, pre p j → p < n) (h0 : x ≠ 0) (hR : R x) (ht : ¬ tk x) (hp : ∀ p, pre p x → p ≠ x → In R pre tk h p) : In R pre tk h x := by
  obtain ⟨K, hK⟩ := fin_bound (P := fun p => pre p x ∧ p ≠ x) (Q := fun k p => Ik R pre tk h k p) (fun k j x hl hq => hq.le hl) n fun p _ hq => hp p hq.1 hq.2
  exact ⟨K + 1, .inr ⟨h0, hR, ht, fun p h1 h2 => hK p (hn _ _ h1) ⟨h1, h2⟩⟩⟩
/-- What holds of the head and goes on holds of all. -/
theorem In.ind {P : Nat → Prop} (hh : P h) (hs : ∀ x, x ≠ 0 → R x → ¬ tk x → (∀ p, pre p x → p ≠ x → P p) → P x) (hx : In R pre tk h x) : P x := by
  obtain ⟨k, hk⟩ := hx
  induction k generalizing x with
  | zero => obtain rfl : x = h := hk; exact hh
  | succ k ih =>
    rcases hk with hk | ⟨h0, hR, ht, hp⟩
    · exact ih hk
    · exact hs x h0 hR ht fun p h1 h2 => ih (hp p h1 h2)
theorem In.cases (hx : In R pre tk h x) : x = h ∨ (x ≠ 0 ∧ R x ∧ ¬ tk x ∧ ∀ p, pre p x → p ≠ x → In R pre tk h p) := by
  obtain ⟨k, hk⟩ := hx
  induction k generalizing x with
  | zero => exact .inl hk
  | succ k ih =>
    rcases hk with hk | ⟨h0, hR, ht, hp⟩
    · exact ih hk
    · exact .inr ⟨h0, hR, ht, fun p h1 h2 => ⟨k, hp p h1 h2⟩⟩
theorem least {P : Nat → Prop} (h : ∃ k, P k) : ∃ k, P k ∧ ∀ j, P j → k ≤ j := by
  obtain ⟨k, hk⟩ := h
  induction k using Nat.strongRecOn with
  | ind k ih =>
    by_cases e : ∃ j, j < k ∧ P j
    · obtain ⟨j, hj, hP⟩ := e; exact ih j hj hP
    · exact ⟨k, hk, fun j hj => Classical.byContradiction fun hn => e ⟨j, by omega, hj⟩⟩
/-- How many passes a place takes. -/
theorem exists_rk (R : Nat → Prop) (pre : Nat → Nat → Prop) (tk : Nat → Prop) (h : Nat) : ∃ rk : Nat → Nat, ∀ x, In R pre tk h x → x ≠ h → ∀ p, pre p x → p = x ∨ (In R pre tk h p ∧ rk p < rk x) := by
  have hch : ∀ x, ∃ k, In R pre tk h x → (Ik R pre tk h k x ∧ ∀ j, Ik R pre tk h j x → k ≤ j) := by
    intro x
    by_cases hx : In R pre tk h x
    · obtain ⟨k, h1, h2⟩ := least hx
      exact ⟨k, fun _ => ⟨h1, h2⟩⟩
    · exact ⟨0, fun h => absurd h hx⟩
  obtain ⟨rk, hrk⟩ := Classical.axiomOfChoice hch
  refine ⟨rk, fun x hx hne p hp => ?_⟩
  by_cases e : p = x
  · exact .inl e
  right
  obtain ⟨h1, h2⟩ := hrk x hx
  generalize hk : rk x = k at h1 h2
  cases k with
  | zero => exact absurd h1 hne
  | succ k =>
    rcases h1 with h1 | ⟨_, _, _, h1⟩
    · have := h2 k h1; omega
    · have h3 := h1 p hp e
      exact ⟨⟨k, h3⟩, by have := (hrk p ⟨k, h3⟩).2 k h3; omega⟩
theorem mem_ivl : x ∈ ivl n R pre tk h ↔ x = h ∨ (x < n ∧ In R pre tk h x) := by
  unfold ivl
  rw [List.mem_cons, List.mem_filter, List.mem_range, decide_eq_true_iff]
  constructor
  · rintro (e | ⟨h1, h2, _⟩)
    · exact .inl e
    · exact .inr ⟨h1, h2⟩
  · rintro (e | ⟨h1, h2⟩)
    · exact .inl e
    · by_cases e : x = h
      · exact .inl e
      · exact .inr ⟨h1, h2, e⟩
theorem nodup_range : ∀ n, (List.range n).Nodup := fun n => List.nodup_range
theorem ivl_nodup : (ivl n R pre tk h).Nodup := by
  unfold ivl
  refine List.nodup_cons.mpr ⟨fun hm => ?_, (nodup_range n).filter _⟩
  rw [List.mem_filter, decide_eq_true_iff] at hm
  exact hm.2.2 rfl
theorem hdo_some (hh : hdo n R pre tk = some h) : h < n ∧ Hd R pre tk h ∧ ∀ j, j < h → ¬ Hd R pre tk j := by
  unfold hdo at hh
  have h1 := List.find?_some hh
  have h2 := List.mem_of_find?_eq_some hh
  refine ⟨List.mem_range.mp h2, of_decide_eq_true h1, fun j hj hd => ?_⟩
  rw [List.find?_range_eq_some] at hh
  have := hh.2.2 j hj
  simp [hd] at this
theorem hdo_none (hh : hdo n R pre tk = none) : ∀ j, j < n → ¬ Hd R pre tk j := by
  intro j hj hd
  unfold hdo at hh
  have := List.find?_eq_none.mp hh j (List.mem_range.mpr hj)
  simp [hd] at this
theorem hdo_least (h1 : h < n) (h2 : Hd R pre tk h) (h3 : ∀ j, j < h → ¬ Hd R pre tk j) : hdo n R pre tk = some h := by
  unfold hdo
  rw [List.find?_range_eq_some]
  exact ⟨decide_eq_true h2, List.mem_range.mpr h1, fun j hj => by simp [h3 j hj]⟩
theorem hdo_no (h3 : ∀ j, j < n → ¬ Hd R pre tk j) : hdo n R pre tk = none := by
  unfold hdo
  rw [List.find?_eq_none]
  intro j hj
  simp [h3 j (List.mem_range.mp hj)]
theorem Tk_snoc {l : List Nat} : Tk (L ++ [l]) x ↔ Tk L x ∨ x ∈ l := by
  constructor
  · rintro ⟨l2, h1, h2⟩
    rcases List.mem_append.mp h1 with h1 | h1
    · exact .inl ⟨l2, h1, h2⟩
    · rw [List.mem_singleton] at h1; subst h1; exact .inr h2
  · rintro (⟨l2, h1, h2⟩ | h2)
    · exact ⟨l2, List.mem_append_left _ h1, h2⟩
    · exact ⟨l, by simp, h2⟩
theorem Tk_nil : ¬ Tk [] x := by rintro ⟨l, h, _⟩; cases h
theorem Tk_get : Tk L x ↔ ∃ a, a < L.length ∧ x ∈ L.getD a [] := by
  constructor
  · rintro ⟨l, h1, h2⟩
    obtain ⟨a, ha, rfl⟩ := List.getElem_of_mem h1
    exact ⟨a, ha, by simpa [List.getD_eq_getElem?_getD, ha] using h2⟩
  · rintro ⟨a, ha, h2⟩
    refine ⟨L[a], List.getElem_mem ha, by simpa [List.getD_eq_getElem?_getD, ha] using h2⟩
def hdl (L : List (List Nat)) (a : Nat) : Nat := (L.getD a []).headD 0
/-- What is kept. -/
structure St (n : Nat) (R : Nat → Prop) (pre : Nat → Nat → Prop) (L : List (List Nat)) : Prop where
  one : ∀ a b x, a < L.length → b < L.length → x ∈ L.getD a [] → x ∈ L.getD b [] → a = b
  iv : ∀ a, a < L.length → L.getD a [] = ivl n R pre (Tk (L.take a)) (hdl L a)
  hR : ∀ a, a < L.length → R (hdl L a)
  hd0 : 0 < L.length → hdl L 0 = 0
  ear : ∀ a, a < L.length → a ≠ 0 → ∃ p, pre p (hdl L a) ∧ Tk (L.take a) p
  hnt : ∀ a, a < L.length → ¬ Tk (L.take a) (hdl L a)
theorem St.nil : St n R pre [] := by
  refine ⟨?_, ?_, ?_, ?_, ?_, ?_⟩ <;> intros <;> simp at *
theorem getD_snoc {l : List Nat} {a : Nat} (h : a < L.length) : (L ++ [l]).getD a [] = L.getD a [] := by simp [List.getD_eq_getElem?_getD, List.getElem?_append_left h]
theorem getD_snoc_last {l : List Nat} : (L ++ [l]).getD L.length [] = l := by simp [List.getD_eq_getElem?_getD]
theorem take_snoc {l : List Nat} {a : Nat} (h : a ≤ L.length) : (L ++ [l]).take a = L.take a := by rw [List.take_append_of_le_length h]
theorem hdl_snoc {l : List Nat} {a : Nat} (h : a < L.length) : hdl (L ++ [l]) a = hdl L a := by unfold hdl; rw [getD_snoc h]
theorem hdl_last : hdl (L ++ [ivl n R pre tk h]) L.length = h := by unfold hdl; rw [getD_snoc_last]; rfl
theorem St.snoc (g : G R pre) (s : St n R pre L) (hR : R h) (hc : (L = [] ∧ h = 0) ∨ (L ≠ [] ∧ Hd R pre (Tk L) h)) : St n R pre (L ++ [ivl n R pre (Tk L) h]) := by
  have hnt : ¬ Tk L h := by
    rcases hc with ⟨e, _⟩ | ⟨_, h2⟩
    · subst e; exact Tk_nil
    · exact h2.2.1
  have hnew : ∀ x, x ∈ ivl n R pre (Tk L) h → ¬ Tk L x := by
    intro x hx
    rcases mem_ivl.mp hx with e | ⟨_, hi⟩
    · subst e; exact hnt
    · rcases hi.cases with e | ⟨_, _, h3, _⟩
      · subst e; exact hnt
      · exact h3
  have hlen : (L ++ [ivl n R pre (Tk L) h]).length = L.length + 1 := by simp
  refine ⟨?_, ?_, ?_, ?_, ?_, ?_⟩
  · intro a b x ha hb h1 h2
    rw [hlen] at ha hb
    by_cases ea : a = L.length
    · subst ea
      rw [getD_snoc_last] at h1
      by_cases eb : b = L.length
      · exact eb.symm
      · rw [getD_snoc (by omega)] at h2
        exact absurd (Tk_get.mpr ⟨b, by omega, h2⟩) (hnew x h1)
    · rw [getD_snoc (by omega)] at h1
      by_cases eb : b = L.length
      · subst eb
        rw [getD_snoc_last] at h2
        exact absurd (Tk_get.mpr ⟨a, by omega, h1⟩) (hnew x h2)
      · rw [getD_snoc (by omega)] at h2
        exact s.one a b x (by omega) (by omega) h1 h2
  · intro a ha
    rw [hlen] at ha
    by_cases ea : a = L.length
    · subst ea
      rw [getD_snoc_last, hdl_last, take_snoc (Nat.le_refl _), List.take_length]
    · rw [getD_snoc (by omega), hdl_snoc (by omega), take_snoc (by omega)]
      exact s.iv a (by omega)
  · intro a ha
    rw [hlen] at ha
    by_cases ea : a = L.length
    · subst ea; rw [hdl_last]; exact hR
    · rw [hdl_snoc (by omega)]; exact s.hR a (by omega)
  · intro _
    by_cases e : L.length = 0
    · rcases hc with ⟨e2, e3⟩ | ⟨h2, _⟩
      · have := hdl_last (L := L) (n := n) (R := R) (pre := pre) (tk := Tk L) (h := h)
        rw [e] at this; rw [this, e3]
      · exact absurd (List.eq_nil_of_length_eq_zero e) h2
    · rw [hdl_snoc (by omega)]; exact s.hd0 (by omega)
  · intro a ha h0
    rw [hlen] at ha
    by_cases ea : a = L.length
    · subst ea
      rw [hdl_last, take_snoc (Nat.le_refl _), List.take_length]
      rcases hc with ⟨e2, _⟩ | ⟨_, h2⟩
      · rw [e2] at h0; exact absurd rfl h0
      · exact h2.2.2
    · rw [hdl_snoc (by omega), take_snoc (by omega)]; exact s.ear a (by omega) h0
  · intro a ha
    rw [hlen] at ha
    by_cases ea : a = L.length
    · subst ea; rw [hdl_last, take_snoc (Nat.le_refl _), List.take_length]; exact hnt
    · rw [hdl_snoc (by omega), take_snoc (by omega)]; exact s.hnt a (by omega)
/-- Where a place is. -/
noncomputable def ix (L : List (List Nat)) (x : Nat) : Nat := open Classical in if h : ∃ a, a < L.length ∧ x ∈ L.getD a [] then h.choose else 0
theorem St.ix_eq (s : St n R pre L) {a : Nat} (ha : a < L.length) (hx : x ∈ L.getD a []) : ix L x = a := by
  unfold ix
  have h : ∃ a, a < L.length ∧ x ∈ L.getD a [] := ⟨a, ha, hx⟩
  rw [dif_pos h]
  exact s.one _ _ x h.choose_spec.1 ha h.choose_spec.2 hx
theorem ix_mem (h : Tk L x) : ix L x < L.length ∧ x ∈ L.getD (ix L x) [] := by
  have h2 := Tk_get.mp h
  unfold ix
  rw [dif_pos h2]
  exact h2.choose_spec
theorem Tk_take {a : Nat} (ha : a ≤ L.length) (s : St n R pre L) : Tk (L.take a) x ↔ Tk L x ∧ ix L x < a := by
  constructor
  · intro h
    obtain ⟨b, hb, hx⟩ := Tk_get.mp h
    rw [List.length_take] at hb
    have e : (L.take a).getD b [] = L.getD b [] := by
      simp only [List.getD_eq_getElem?_getD, List.getElem?_take]
      rw [if_pos (by omega)]
    rw [e] at hx
    refine ⟨Tk_get.mpr ⟨b, by omega, hx⟩, ?_⟩
    rw [s.ix_eq (by omega) hx]; omega
  · rintro ⟨h, hl⟩
    obtain ⟨h1, h2⟩ := ix_mem h
    refine Tk_get.mpr ⟨ix L x, by rw [List.length_take]; omega, ?_⟩
    have e : (L.take a).getD (ix L x) [] = L.getD (ix L x) [] := by
      simp only [List.getD_eq_getElem?_getD, List.getElem?_take]
      rw [if_pos (by omega)]
    rw [e]; exact h2
theorem St.head_mem (s : St n R pre L) {a : Nat} (ha : a < L.length) : hdl L a ∈ L.getD a [] := by
  rw [s.iv a ha]; exact mem_ivl.mpr (.inl rfl)
theorem St.memR (s : St n R pre L) {a : Nat} (ha : a < L.length) (hx : x ∈ L.getD a []) : R x := by
  rw [s.iv a ha] at hx
  rcases mem_ivl.mp hx with e | ⟨_, hi⟩
  · rw [e]; exact s.hR a ha
  · rcases hi.cases with e | ⟨_, h, _⟩
    · rw [e]; exact s.hR a ha
    · exact h
/-- All is covered when none is left. -/
theorem St.cover (g : G R pre) (hn : ∀ x, R x → x < n) (s : St n R pre L) (h0 : L ≠ []) (hno : hdo n R pre (Tk L) = none) : ∀ x, R x → Tk L x := by
  refine g.rch _ ?_ ?_
  · have hl : 0 < L.length := List.length_pos_iff.mpr h0
    have := s.head_mem hl
    rw [s.hd0 hl] at this
    exact Tk_get.mpr ⟨0, hl, this⟩
  · intro p j hp he
    refine Classical.byContradiction fun hj => ?_
    exact hdo_none hno j (hn j (g.preR _ _ he)) ⟨g.preR _ _ he, hj, p, he, hp⟩
/-- They are intervals. -/
theorem St.ivs (g : G R pre) (hn : ∀ x, R x → x < n) (s : St n R pre L) (h0 : L ≠ []) (hno : hdo n R pre (Tk L) = none) : ∃ rk, Iv R pre L.length (hdl L) (ix L) rk := by
  have hc := s.cover g hn h0 hno
  have hrk : ∀ a, ∃ rk : Nat → Nat, ∀ x, In R pre (Tk (L.take a)) (hdl L a) x → x ≠ hdl L a → ∀ p, pre p x → p = x ∨ (In R pre (Tk (L.take a)) (hdl L a) p ∧ rk p < rk x) := fun a => exists_rk R pre _ _
  obtain ⟨rk, hrk⟩ := Classical.axiomOfChoice hrk
  refine ⟨fun x => rk (ix L x) x, ?_, ?_, ?_, ?_, ?_, ?_⟩
  · exact fun x hx => (ix_mem (hc x hx)).1
  · exact fun a ha => ⟨s.hR a ha, s.ix_eq ha (s.head_mem ha)⟩
  · exact s.hd0 (List.length_pos_iff.mpr h0)
  · intro x p hx hne hp
    obtain ⟨h1, h2⟩ := ix_mem (hc x hx)
    have h2' := h2
    rw [s.iv _ h1] at h2
    rcases mem_ivl.mp h2 with e | ⟨_, hi⟩
    · exact absurd e hne
    · rcases hrk (ix L x) x hi hne p hp with e | ⟨h3, h4⟩
      · exact ⟨by rw [e], .inl e⟩
      · have hm : p ∈ L.getD (ix L x) [] := by
          rw [s.iv _ h1]; exact mem_ivl.mpr (.inr ⟨hn p (g.preL _ _ hp), h3⟩)
        have e := s.ix_eq h1 hm
        refine ⟨e, .inr ?_⟩
        show rk (ix L p) p < rk (ix L x) x
        rw [e]; exact h4
  · intro a ha h
    obtain ⟨p, h1, h2⟩ := s.ear a ha h
    exact ⟨p, h1, ((Tk_take (by omega) s).mp h2).2⟩
  · intro a b hab hb hall
    have hxb := s.ix_eq hb (s.head_mem hb)
    have hR := s.hR b hb
    have hnt : ¬ Tk (L.take a) (hdl L b) := fun h => by
      have := ((Tk_take (by omega) s).mp h).2
      omega
    have h0b : hdl L b ≠ 0 := by
      intro e
      have h1 := s.hd0 (by omega)
      have h2 := s.ix_eq (a := 0) (by omega) (s.head_mem (by omega))
      rw [h1] at h2
      rw [e] at hxb
      omega
    have hi : In R pre (Tk (L.take a)) (hdl L a) (hdl L b) := by
      refine In.closed (n := n) (fun p j h => hn p (g.preL _ _ h)) h0b hR hnt fun p hp hne => ?_
      have h1 := hall p hp hne
      obtain ⟨_, h2⟩ := ix_mem (hc p (g.preL _ _ hp))
      rw [h1, s.iv a (by omega)] at h2
      rcases mem_ivl.mp h2 with e | ⟨_, h3⟩
      · exact ⟨0, e⟩
      · exact h3
    have hm : hdl L b ∈ L.getD a [] := by
      rw [s.iv a (by omega)]; exact mem_ivl.mpr (.inr ⟨hn _ hR, hi⟩)
    have := s.ix_eq (by omega) hm
    omega
/-- What is told of whoever runs. -/
theorem Run.kept (g : G R pre) (hn : ∀ x, R x → x < n) {o : Option Nat} {L2 : List (List Nat)} (r : Run n R pre L o L2) : St n R pre L → (∀ h, o = some h → R h ∧ ((L = [] ∧ h = 0) ∨ (L ≠ [] ∧ Hd R pre (Tk L) h))) → (o = none → L ≠ [] ∧ hdo n R pre (Tk L) = none) → St n R pre L2 ∧ L2 ≠ [] ∧ hdo n R pre (Tk L2) = none := by
  induction r with
  | done L => intro s _ h; exact ⟨s, h rfl⟩
  | @more L L2 h _ ih =>
    intro s h1 _
    obtain ⟨hR, hc⟩ := h1 h rfl
    have s2 := s.snoc g hR hc
    refine ih s2 (fun h2 e => ?_) fun e => ⟨by simp, e⟩
    obtain ⟨e1, e2, _⟩ := hdo_some e
    exact ⟨e2.1, .inr ⟨by simp, e2⟩⟩
end
end Go.Proofs.Ytfiffhcpgojkhaa.IntU
