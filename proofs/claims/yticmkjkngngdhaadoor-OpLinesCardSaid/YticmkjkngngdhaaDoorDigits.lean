/- Decimal digits: what dgs writes, and which lists it writes. Plain, no program in sight. No condition. -/
import Derived.Test.YticmkjkngngdhaaDoorNumPrint
namespace Go.Proofs.YticmkjkngngdhaaDoor
theorem snoc_ind {α : Type} {P : List α → Prop} (nil : P []) (snoc : ∀ l a, P l → P (l ++ [a])) (l : List α) : P l := by
  have h : ∀ m : List α, P m.reverse := by
    intro m
    induction m with
    | nil => exact nil
    | cons a m ih => rw [List.reverse_cons]; exact snoc _ _ ih
  have := h l.reverse
  rwa [List.reverse_reverse] at this
/-- The number that digits spell. -/
def val (l : List UInt8) : Nat := l.foldl (fun v d => 10 * v + (d.toNat - 48)) 0
def Dig (d : UInt8) : Prop := 48 ≤ d.toNat ∧ d.toNat ≤ 57
theorem val_snoc (l : List UInt8) (d : UInt8) : val (l ++ [d]) = 10 * val l + (d.toNat - 48) := by simp [val]
theorem dg_dig (v : Nat) : Dig (dg v) ∧ (dg v).toNat - 48 = v % 10 := by
  have := dg_toNat v
  unfold Dig
  omega
theorem dg_of (d : UInt8) (h : Dig d) (v : Nat) : dg (10 * v + (d.toNat - 48)) = d := by
  have := dg_toNat (10 * v + (d.toNat - 48))
  obtain ⟨h1, h2⟩ := h
  apply UInt8.toNat_inj.1
  omega
theorem dgs_app : ∀ (f v : Nat) (ds : List UInt8), dgs f v ds = dgs f v [] ++ ds
  | 0, v, ds => by simp [dgs]
  | f + 1, v, ds => by
    simp only [dgs]
    split
    · simp
    · rw [dgs_app f (v / 10) (dg v :: ds), dgs_app f (v / 10) [dg v]]
      simp
theorem dgs_succ (f v : Nat) : dgs (f + 1) v [] = if v / 10 = 0 then [dg v] else dgs f (v / 10) [] ++ [dg v] := by
  simp only [dgs]
  split
  · rfl
  · rw [dgs_app]
theorem dgs_digits : ∀ (f v : Nat), ∀ d ∈ dgs f v [], Dig d
  | 0, v => by simp [dgs]
  | f + 1, v => by
    rw [dgs_succ]
    split
    · simp [(dg_dig v).1]
    · intro d hd
      simp only [List.mem_append, List.mem_singleton] at hd
      rcases hd with hd | rfl
      · exact dgs_digits f _ d hd
      · exact (dg_dig v).1
theorem dgs_val : ∀ (f v : Nat), v < 10 ^ f → val (dgs f v []) = v
  | 0, v => by intro h; simp at h; subst h; rfl
  | f + 1, v => by
    intro h
    rw [dgs_succ]
    have hd := (dg_dig v).2
    split
    · simp only [val, List.foldl_cons, List.foldl_nil]; omega
    · rw [val_snoc, dgs_val f (v / 10) (by rw [Nat.pow_succ] at h; omega), hd]; omega
theorem dgs_length : ∀ (f v j : Nat), v < 10 ^ (j + 1) → (dgs f v []).length ≤ j + 1
  | 0, v, j => by simp [dgs]
  | f + 1, v, j => by
    intro h
    rw [dgs_succ]
    split
    · simp
    · cases j with
      | zero => simp at h; omega
      | succ j =>
        have := dgs_length f (v / 10) j (by rw [Nat.pow_succ] at h; omega)
        simp; omega
theorem dgs_ne (f v : Nat) : dgs (f + 1) v [] ≠ [] := by
  rw [dgs_succ]
  split <;> simp
/-- A nought stands first alone. -/
theorem dgs_head : ∀ (f v : Nat) (d : UInt8) (r : List UInt8), v < 10 ^ f → dgs f v [] = d :: r → d.toNat = 48 → v = 0 ∧ r = []
  | 0, v, d, r => by simp [dgs]
  | f + 1, v, d, r => by
    intro hv h hd
    rw [dgs_succ] at h
    have hg := dg_toNat v
    split at h
    · rename_i hz
      simp only [List.cons.injEq] at h
      obtain ⟨rfl, rfl⟩ := h
      exact ⟨by omega, rfl⟩
    · rename_i hz
      exfalso
      have hv' : v / 10 < 10 ^ f := by rw [Nat.pow_succ] at hv; omega
      cases hq : dgs f (v / 10) [] with
      | nil =>
        have := dgs_val f (v / 10) hv'
        rw [hq] at this
        simp [val] at this
        omega
      | cons d' r' =>
        rw [hq] at h
        simp only [List.cons_append, List.cons.injEq] at h
        obtain ⟨rfl, _⟩ := h
        exact hz (dgs_head f _ _ _ hv' hq hd).1
theorem val_pos : ∀ (l : List UInt8), (∀ d ∈ l, Dig d) → (∀ d r, l = d :: r → d.toNat ≠ 48) → l ≠ [] → 0 < val l := by
  intro l
  induction l using snoc_ind with
  | nil => intro _ _ h; exact absurd rfl h
  | snoc l d ih =>
    intro hd hh _
    rw [val_snoc]
    cases l with
    | nil =>
      have h1 := hh d [] rfl
      have h2 := hd d (by simp)
      unfold Dig at h2
      omega
    | cons d' r =>
      have := ih (fun x hx => hd x (by simp at hx ⊢; rcases hx with h | h <;> simp [h])) (fun x y hxy => by
        obtain ⟨rfl, rfl⟩ := List.cons.inj hxy
        exact hh _ (r ++ [d]) rfl) (by simp)
      omega
/-- Digits without a nought ahead are what dgs writes of their number. -/
theorem dgs_of : ∀ (l : List UInt8), (∀ d ∈ l, Dig d) → l ≠ [] → (∀ d r, l = d :: r → d.toNat = 48 → r = []) → ∀ f, l.length ≤ f → dgs f (val l) [] = l := by
  intro l
  induction l using snoc_ind with
  | nil => intro _ h; exact absurd rfl h
  | snoc l d ih =>
    intro hd _ hh f hf
    have hdd := hd d (by simp)
    obtain ⟨f, rfl⟩ : ∃ g, f = g + 1 := ⟨f - 1, by simp at hf; omega⟩
    rw [dgs_succ, val_snoc, dg_of d hdd]
    have hlt : (10 * val l + (d.toNat - 48)) / 10 = val l := by unfold Dig at hdd; omega
    rw [hlt]
    cases hl : l with
    | nil => simp [val]
    | cons d' r =>
      have hnz : ∀ x y, l = x :: y → x.toNat ≠ 48 := by
        intro x y hxy h48
        have := hh x (y ++ [d]) (by rw [hxy]; rfl) h48
        simp at this
      have hdl : ∀ x ∈ l, Dig x := fun x hx => hd x (by simp [hx])
      have hp := val_pos l hdl hnz (by rw [hl]; simp)
      rw [← hl, if_neg (by omega), ih hdl (by rw [hl]; simp) (fun x y hxy h48 => absurd h48 (hnz x y hxy)) f (by simp at hf; omega)]
theorem val_lt : ∀ (l : List UInt8), (∀ d ∈ l, Dig d) → val l < 10 ^ l.length := by
  intro l
  induction l using snoc_ind with
  | nil => intro _; simp [val]
  | snoc l d ih =>
    intro hd
    have h1 := ih (fun x hx => hd x (by simp [hx]))
    have h2 := hd d (by simp)
    rw [val_snoc, List.length_append, List.length_singleton, Nat.pow_succ]
    unfold Dig at h2
    omega
end Go.Proofs.YticmkjkngngdhaaDoor
