/- A graph's reached places, in plain words: of two places one is reached without the other. No condition. -/
import Derived.Test.YtfiffhcpgojkhaaDoorDomQ
namespace Go.Proofs.YtfiffhcpgojkhaaDoor.IntT
open Go.Proofs.YtfiffhcpgojkhaaDoor.DomT
set_option linter.unusedVariables false
variable {R : Nat → Prop} {pre : Nat → Nat → Prop}
/-- A graph: its reached places. -/
structure G (R : Nat → Prop) (pre : Nat → Nat → Prop) : Prop where
  r0 : R 0
  preL : ∀ p j, pre p j → R p
  preR : ∀ p j, pre p j → R j
  rch : ∀ P : Nat → Prop, P 0 → (∀ p j, P p → pre p j → P j) → ∀ x, R x → P x
theorem G.pred (g : G R pre) {y : Nat} (h : R y) : y = 0 ∨ ∃ p, p ≠ y ∧ pre p y := by
  refine g.rch (fun y => y = 0 ∨ ∃ p, p ≠ y ∧ pre p y) (.inl rfl) (fun p j hp he => ?_) y h
  by_cases e : p = j
  · subst e; exact hp
  · exact .inr ⟨p, e, he⟩
theorem av_self {x : Nat} : ¬ Av pre x x := by
  intro h
  cases h with
  | root h => exact h rfl
  | step _ _ h => exact h rfl
theorem G.anti (g : G R pre) {x y : Nat} (hne : x ≠ y) (hy : R y) : Av pre x y ∨ Av pre y x := by
  have key : ∀ z, R z → (Av pre x z ∧ Av pre y z) ∨ Av pre x y ∨ Av pre y x := by
    refine g.rch _ ?_ ?_
    · by_cases e1 : 0 = x
      · exact .inr (.inr (e1 ▸ .root (fun e => hne (e1.symm.trans e))))
      · by_cases e2 : 0 = y
        · exact .inr (.inl (e2 ▸ .root e1))
        · exact .inl ⟨.root e1, .root e2⟩
    · intro p j hp he
      rcases hp with ⟨h1, h2⟩ | h | h
      · by_cases e1 : j = x
        · subst e1; exact .inr (.inr (.step h2 he hne))
        · by_cases e2 : j = y
          · subst e2; exact .inr (.inl (.step h1 he e1))
          · exact .inl ⟨.step h1 he e1, .step h2 he e2⟩
      · exact .inr (.inl h)
      · exact .inr (.inr h)
  rcases key y hy with ⟨_, h⟩ | h
  · exact absurd h av_self
  · exact h
end Go.Proofs.YtfiffhcpgojkhaaDoor.IntT
/- Natural loops of a graph, in plain words: a head dominates its loop; two loops have no place in common, or one has all of the other's. No condition. -/
namespace Go.Proofs.YtfiffhcpgojkhaaDoor.LoopT
open Go.Proofs.YtfiffhcpgojkhaaDoor.DomT Go.Proofs.YtfiffhcpgojkhaaDoor.IntT
set_option linter.unusedVariables false
variable {R : Nat → Prop} {pre : Nat → Nat → Prop}
/-- One comes from x to y without h. -/
inductive W (pre : Nat → Nat → Prop) (h x : Nat) : Nat → Prop
  | root : x ≠ h → W pre h x x
  | step {y z : Nat} : W pre h x y → pre y z → z ≠ h → W pre h x z
theorem W.trans {h x y z : Nat} (a : W pre h x y) (b : W pre h y z) : W pre h x z := by
  induction b with
  | root _ => exact a
  | step _ he hn ih => exact .step ih he hn
theorem W.av {h x y : Nat} (a : W pre h x y) (b : Av pre h x) : Av pre h y := by
  induction a with
  | root _ => exact b
  | step _ he hn ih => exact .step ih he hn
/-- A back edge from k to h. -/
def Bk (pre : Nat → Nat → Prop) (k h : Nat) : Prop := pre k h ∧ ¬ Av pre h k
/-- What is in the loop of h. -/
def Lb (R : Nat → Prop) (pre : Nat → Nat → Prop) (h x : Nat) : Prop := x = h ∨ (R x ∧ x ≠ h ∧ ∃ k, W pre h x k ∧ Bk pre k h)
theorem Lb.dom {h x : Nat} (l : Lb R pre h x) : ¬ Av pre h x := by
  rcases l with e | ⟨_, _, k, hw, hb⟩
  · rw [e]; exact av_self
  · exact fun h => hb.2 (hw.av h)
theorem Lb.isR (g : G R pre) {h x : Nat} (hh : ∃ k, Bk pre k h) (l : Lb R pre h x) : R x := by
  rcases l with e | ⟨hr, _⟩
  · obtain ⟨k, hk⟩ := hh; rw [e]; exact g.preR _ _ hk.1
  · exact hr
theorem G.lin (g : G R pre) {a b x : Nat} (hne : a ≠ b) (hx : R x) (ha : ¬ Av pre a x) (hb : ¬ Av pre b x) : ¬ Av pre a b ∨ ¬ Av pre b a := by
  refine Classical.byContradiction fun hn => ?_
  have h1 : Av pre a b := Classical.byContradiction fun h => hn (.inl h)
  have h2 : Av pre b a := Classical.byContradiction fun h => hn (.inr h)
  have key : ∀ z, R z → Av pre a z ∨ Av pre b z := by
    refine g.rch _ ?_ ?_
    · by_cases e : 0 = a
      · exact .inr (.root fun e2 => hne (e.symm.trans e2))
      · exact .inl (.root e)
    · intro p j hp he
      rcases hp with hp | hp
      · by_cases e : j = a
        · subst e; exact .inr h2
        · exact .inl (.step hp he e)
      · by_cases e : j = b
        · subst e; exact .inl h1
        · exact .inr (.step hp he e)
  rcases key x hx with h | h
  · exact ha h
  · exact hb h
theorem nest1 (g : G R pre) {a b x y : Nat} (hne : a ≠ b) (hab : ¬ Av pre a b) (hba : R a) (hb2 : ∃ k, Bk pre k b) (xa : Lb R pre a x) (xb : Lb R pre b x) (yb : Lb R pre b y) : Lb R pre a y := by
  have hRb : R b := by obtain ⟨k, hk⟩ := hb2; exact g.preR _ _ hk.1
  have hva : Av pre b a := (g.anti hne hRb).elim (fun h => absurd h hab) id
  by_cases ey : y = a
  · exact .inl ey
  have hRx := xb.isR g hb2
  have hxa : x ≠ a := fun e => by rw [e] at xb; exact xb.dom hva
  have w1 : W pre a b x := by
    have key : ∀ z, R z → W pre a b z ∨ Av pre b z := by
      refine g.rch _ ?_ ?_
      · by_cases e : 0 = b
        · subst e; exact .inl (.root (Ne.symm hne))
        · exact .inr (.root e)
      · intro p j hp he
        rcases hp with hp | hp
        · by_cases e : j = a
          · subst e; exact .inr hva
          · exact .inl (.step hp he e)
        · by_cases e : j = b
          · subst e; exact .inl (.root (Ne.symm hne))
          · exact .inr (.step hp he e)
    exact (key x hRx).elim id fun h => absurd h xb.dom
  have w2 : W pre a y b := by
    rcases yb with e | ⟨_, hyb, k, hw, hk⟩
    · rw [e]; exact .root (Ne.symm hne)
    · have key : ∀ z, W pre b y z → W pre a y z ∨ Av pre b z := by
        intro z hz
        induction hz with
        | root _ => exact .inl (.root ey)
        | @step p j hp he hj ih =>
          rcases ih with h | h
          · by_cases e : j = a
            · subst e; exact .inr hva
            · exact .inl (.step h he e)
          · exact .inr (.step h he hj)
      exact .step ((key k hw).elim id fun h => absurd h hk.2) hk.1 (Ne.symm hne)
  rcases xa with e | ⟨_, _, k, hw, hk⟩
  · exact absurd e hxa
  · exact .inr ⟨yb.isR g hb2, ey, k, (w2.trans w1).trans hw, hk⟩
/-- Two loops with a place in common: one has all of the other's. -/
theorem nests (g : G R pre) {a b x : Nat} (hne : a ≠ b) (ha : ∃ k, Bk pre k a) (hb : ∃ k, Bk pre k b) (xa : Lb R pre a x) (xb : Lb R pre b x) : (∀ y, Lb R pre b y → Lb R pre a y) ∨ ∀ y, Lb R pre a y → Lb R pre b y := by
  have hRa : R a := by obtain ⟨k, hk⟩ := ha; exact g.preR _ _ hk.1
  have hRb : R b := by obtain ⟨k, hk⟩ := hb; exact g.preR _ _ hk.1
  rcases G.lin g hne (xb.isR g hb) xa.dom xb.dom with h | h
  · exact .inl fun y hy => nest1 g hne h hRa hb xa xb hy
  · exact .inr fun y hy => nest1 g (Ne.symm hne) h hRb ha xb xa hy
end Go.Proofs.YtfiffhcpgojkhaaDoor.LoopT
