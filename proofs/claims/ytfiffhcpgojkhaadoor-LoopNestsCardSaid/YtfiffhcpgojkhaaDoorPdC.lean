/- Small facts on numbers and lists; what is sorted and compacted; plain. No condition. -/
import Derived.Test.YtfiffhcpgojkhaaDoorWWords
import Derived.Lib.SlicesCompact
import Derived.Lib.RowBridge
namespace Go.Proofs.YtfiffhcpgojkhaaDoor.PdC
open Go.Proofs.YtfiffhcpgojkhaaDoor Go.RowKit Go.Proofs.YtfiffhcpgojkhaaDoorW.PrintWords
set_option linter.unusedSimpArgs false
set_option linter.unusedVariables false
theorem w64_of {x : Int} (h0 : -9223372036854775808 ≤ x) (h1 : x ≤ 9223372036854775807) : wrap64 x = x := by
  unfold wrap64
  omega
theorem wnext (i : Nat) (h : i < 4611686018427387904) : wrap64 ((i : Int) + 1) = ((i + 1 : Nat) : Int) := by rw [w64_of (by omega) (by omega)]; omega
theorem drop_rd (L : List Int) (j : Nat) (h : j < L.length) : L.drop j = rd L (j : Int) :: L.drop (j + 1) := by
  rw [List.drop_eq_getElem_cons h]
  simp [rd, h]
theorem take_rd (l : List Int) (j : Nat) (h : j < l.length) : l.take (j + 1) = l.take j ++ [rd l (j : Int)] := by
  rw [List.take_succ_eq_append_getElem h]
  simp [rd, h]
theorem rd_mem (l : List Int) (i : Nat) (h : i < l.length) : rd l (i : Int) ∈ l := by
  simp [rd, h]
theorem rd_nat (l : List Int) (i : Nat) : rd l (i : Int) = l.getD i 0 := by simp [rd]
theorem getD_mem (l : List Int) (i : Nat) (h : i < l.length) : l.getD i 0 ∈ l := by simp [List.getD_eq_getElem?_getD, h]
/-- Two lists that rise and have the same members are the same. -/
theorem rise_eq : ∀ (a b : List Int), a.Pairwise (· < ·) → b.Pairwise (· < ·) → (∀ x, x ∈ a ↔ x ∈ b) → a = b := by
  intro a
  induction a with
  | nil =>
    intro b _ _ h
    cases b with
    | nil => rfl
    | cons y b => exact absurd ((h y).mpr List.mem_cons_self) (by simp)
  | cons x a ih =>
    intro b ha hb h
    cases b with
    | nil => exact absurd ((h x).mp List.mem_cons_self) (by simp)
    | cons y b =>
      have ha' := List.pairwise_cons.mp ha
      have hb' := List.pairwise_cons.mp hb
      have exy : x = y := by
        rcases List.mem_cons.mp ((h x).mp List.mem_cons_self) with e | e
        · exact e
        · rcases List.mem_cons.mp ((h y).mpr List.mem_cons_self) with e2 | e2
          · exact e2.symm
          · have := hb'.1 x e
            have := ha'.1 y e2
            omega
      subst exy
      rw [ih b ha'.2 hb'.2 fun z => ?_]
      constructor
      · intro hz
        rcases List.mem_cons.mp ((h z).mp (List.mem_cons_of_mem _ hz)) with e | e
        · have := ha'.1 z hz; omega
        · exact e
      · intro hz
        rcases List.mem_cons.mp ((h z).mpr (List.mem_cons_of_mem _ hz)) with e | e
        · have := hb'.1 z hz; omega
        · exact e
/-- A list sorted and compacted. -/
def sc (l : List Int) : List Int := Lib.compact (l.mergeSort fun x y => decide (x ≤ y))
theorem srt (l : List Int) : (l.mergeSort fun x y => decide (x ≤ y)).Pairwise (· ≤ ·) := by
  have h := List.pairwise_mergeSort (le := fun x y : Int => decide (x ≤ y)) (fun a b c h1 h2 => by simp only [decide_eq_true_eq] at *; omega) (fun a b => by simp only [Bool.or_eq_true, decide_eq_true_eq]; omega) l
  exact h.imp fun h => by simpa using h
theorem keeps_iff (zs : List Int) (j : Nat) (hj : j < zs.length) : Lib.keeps zs.toArray j = true ↔ j = 0 ∨ zs.getD (j - 1) 0 ≠ zs.getD j 0 := by
  unfold Lib.keeps
  by_cases h0 : j = 0
  · subst h0; simp
  · simp [h0, List.getD_eq_getElem?_getD, hj, show j - 1 < zs.length by omega]
    grind
theorem compact_mem (zs : List Int) (x : Int) : x ∈ Lib.compact zs ↔ x ∈ zs := by
  unfold Lib.compact Lib.compactUpTo
  rw [List.mem_map]
  constructor
  · rintro ⟨j, hj, rfl⟩
    have := (List.mem_filter.mp hj).1
    rw [List.mem_range] at this
    simp [this]
  · intro hx
    obtain ⟨j, hj, e⟩ := List.getElem_of_mem hx
    have key : ∀ n j, j ≤ n → (hj : j < zs.length) → zs[j] = x → ∃ i, i ∈ (List.range zs.length).filter (Lib.keeps zs.toArray) ∧ zs.toArray[i]! = x := by
      intro n
      induction n with
      | zero =>
        intro j h0 hj e
        obtain rfl : j = 0 := by omega
        exact ⟨0, List.mem_filter.mpr ⟨List.mem_range.mpr hj, (keeps_iff zs 0 hj).mpr (Or.inl rfl)⟩, by simp [hj, e]⟩
      | succ n ih =>
        intro j h0 hj e
        by_cases hk : Lib.keeps zs.toArray j = true
        · exact ⟨j, List.mem_filter.mpr ⟨List.mem_range.mpr hj, hk⟩, by simp [hj, e]⟩
        · have h1 := fun h => hk ((keeps_iff zs j hj).mpr h)
          have h2 : j ≠ 0 := fun h => h1 (Or.inl h)
          have h3 : zs.getD (j - 1) 0 = zs.getD j 0 := Classical.byContradiction fun h => h1 (Or.inr h)
          refine ih (j - 1) (by omega) (by omega) ?_
          simp only [List.getD_eq_getElem?_getD, hj, show j - 1 < zs.length by omega, List.getElem?_eq_getElem, Option.getD_some] at h3
          rw [h3, e]
    exact key j j (Nat.le_refl _) hj e
theorem compact_rise (zs : List Int) (h : zs.Pairwise (· ≤ ·)) : (Lib.compact zs).Pairwise (· < ·) := by
  unfold Lib.compact Lib.compactUpTo
  rw [List.pairwise_map]
  have h1 : ((List.range zs.length).filter (Lib.keeps zs.toArray)).Pairwise (· < ·) := List.Pairwise.filter _ List.pairwise_lt_range
  refine h1.imp_of_mem ?_
  intro i j hi hj hij
  have hi' := List.mem_range.mp (List.mem_filter.mp hi).1
  have hj' := List.mem_range.mp (List.mem_filter.mp hj).1
  have hk := (keeps_iff zs j hj').mp (List.mem_filter.mp hj).2
  have hk2 := hk.resolve_left (by omega)
  have hp := List.pairwise_iff_getElem.mp h
  simp only [List.getD_eq_getElem?_getD, hj', show j - 1 < zs.length by omega, List.getElem?_eq_getElem, Option.getD_some] at hk2
  have h2 := hp (j - 1) j (by omega) hj' (by omega)
  have h3 : zs[i] ≤ zs[j - 1] := by
    by_cases e : i = j - 1
    · subst e; exact Int.le_refl _
    · exact hp i (j - 1) hi' (by omega) (by omega)
  have e1 : zs.toArray[i]! = zs[i] := by simp [hi']
  have e2 : zs.toArray[j]! = zs[j] := by simp [hj']
  rw [e1, e2]
  omega
theorem sc_mem (l : List Int) (x : Int) : x ∈ sc l ↔ x ∈ l := by
  unfold sc
  rw [compact_mem, List.mem_mergeSort]
theorem sc_rise (l : List Int) : (sc l).Pairwise (· < ·) := compact_rise _ (srt l)
theorem sc_len (l : List Int) : (sc l).length ≤ l.length := by
  unfold sc
  refine Nat.le_trans (Lib.compact_length_le _) ?_
  rw [List.length_mergeSort]
  exact Nat.le_refl _
/-- What the numbers up to n rise to. -/
theorem range_rise (n : Nat) (p : Nat → Bool) : (((List.range n).filter p).map fun i : Nat => (i : Int)).Pairwise (· < ·) := by
  rw [List.pairwise_map]
  exact (List.Pairwise.filter p List.pairwise_lt_range).imp fun h => by omega
end Go.Proofs.YtfiffhcpgojkhaaDoor.PdC
