/- ExprTells: what is told of how large and how deep any expression is, whether it may fail, and whether any two are the same, is what the reference tells; plain. No condition. -/
import Derived.Test.YticmkjkngngdhaaDoorQExprTellsx
namespace Go.Proofs.YticmkjkngngdhaaDoor.Pure
open Go.Proofs.YticmkjkngngdhaaDoor Go.Proofs.YticmkjkngngdhaaDoor.QExprTells Go.RowKit Go.Proofs.YticmkjkngngdhaaDoorW.PrintWords Go.Proofs.YticmkjkngngdhaaDoorW.PrintLast Go.Proofs.YticmkjkngngdhaaDoorW.PrintMore
set_option linter.unusedSimpArgs false
theorem wrap_id (z : Int) (h : -9223372036854775808 ≤ z) (h' : z ≤ 9223372036854775807) : wrap64 z = z := by unfold wrap64; omega
theorem wrap_add (a b : Int) : wrap64 (wrap64 a + b) = wrap64 (a + b) := by unfold wrap64; omega
theorem wrap_add' (a b : Int) : wrap64 (a + wrap64 b) = wrap64 (a + b) := by unfold wrap64; omega
theorem wrap_wrap (a : Int) : wrap64 (wrap64 a) = wrap64 a := by unfold wrap64; omega
theorem rd_at (l : List S55) (i : Nat) (h : i < l.length) : rd_T55 l (i : Int) = l[i] := by simp [rd_T55, List.getD_eq_getElem?_getD, List.getElem?_eq_getElem h]
theorem next_i {α : Type} (l : List α) (i : Nat) (h : i < l.length) (hm : l.length ≤ 9223372036854775807) : wrap64 ((i : Int) + 1) = ((i + 1 : Nat) : Int) := by rw [wrap_id _ (by omega) (by omega)]; omega
theorem kid_lt (x : S55) (i : Nat) (h : i < x.f4.length) : SizeOf.sizeOf (x.f4[i]) < SizeOf.sizeOf x := by
  have h1 := List.sizeOf_lt_of_mem (List.getElem_mem h)
  obtain ⟨a, b, c, d, l⟩ := x
  simp only [S55.mk.sizeOf_spec] at h1 ⊢
  omega
theorem kid_w {x : S55} (hx : W55 x) (i : Nat) (h : i < x.f4.length) : W55 (x.f4[i]) := hx.out.2.2.2.2.2 _ (List.getElem_mem h)
theorem len_w {x : S55} (hx : W55 x) : x.f4.length ≤ 9223372036854775807 := hx.out.2.2.2.2.1
/-! ### how large -/
mutual
def cntS : S55 → Nat
  | ⟨_, _, _, _, l⟩ => 1 + cntL l
def cntL : List S55 → Nat
  | [] => 0
  | x :: xs => cntS x + cntL xs
end
theorem cntS_eq (x : S55) : cntS x = 1 + cntL x.f4 := by obtain ⟨a, b, c, d, l⟩ := x; simp only [cntS]
mutual
theorem foldS_cnt : ∀ (x : S55) (s : Int), foldSZ s x = wrap64 (s + cntS x)
  | ⟨a0, a1, a2, a3, l⟩, s => by
    simp only [foldSZ, cntS, stepZ]
    rw [foldL_cnt l _ (wrap_wrap _), wrap_add]
    congr 1
    omega
theorem foldL_cnt : ∀ (l : List S55) (s : Int), wrap64 s = s → foldLZ s l = wrap64 (s + cntL l)
  | [], s, hs => by
    simp only [foldLZ, cntL]
    rw [show s + ((0 : Nat) : Int) = s by omega, hs]
  | x :: xs, s, hs => by
    simp only [foldLZ, cntL]
    rw [foldS_cnt x s, foldL_cnt xs _ (wrap_wrap _), wrap_add]
    congr 1
    omega
end
theorem size_told (x : S55) : expr_Size.f x.f0 x.f1 x.f2 x.f3 x.f4 = some (wrap64 (cntS x)) := by
  have := foldS_cnt x 0
  rw [foldSZ_eq] at this
  unfold expr_Size.f
  rw [this, Int.zero_add]
theorem rsize_ev : ∀ (n : Nat) (x : S55), SizeOf.sizeOf x ≤ n → W55 x → Ev (fun k => ladderbackref26_Size.f k x.f0 x.f1 x.f2 x.f3 x.f4) (wrap64 (cntS x)) := by
  intro n
  induction n with
  | zero => intro x h; exact absurd h (by obtain ⟨a, b, c, d, l⟩ := x; simp only [S55.mk.sizeOf_spec]; omega)
  | succ n ih =>
    intro x hn hx
    have hm := len_w hx
    have loop : ∀ (d i : Nat) (acc : Int), x.f4.length - i = d → i ≤ x.f4.length → Ev (fun k => ladderbackref26_Size.l0 k acc (i : Int) x.f0 x.f1 x.f2 x.f3 x.f4) (if i < x.f4.length then wrap64 (acc + cntL (x.f4.drop i)) else acc) := by
      intro d
      induction d with
      | zero =>
        intro i acc hd hi
        refine ⟨1, fun k hk => ?_⟩
        obtain ⟨k, rfl⟩ : ∃ m, k = m + 1 := ⟨k - 1, by omega⟩
        simp only [ladderbackref26_Size.l0]
        rw [if_neg (by omega), if_neg (by omega)]
      | succ d ihd =>
        intro i acc hd hi
        have hlt : i < x.f4.length := by omega
        obtain ⟨K1, h1⟩ := ih x.f4[i] (by have := kid_lt x i hlt; omega) (kid_w hx i hlt)
        simp only at h1
        obtain ⟨K2, h2⟩ := ihd (i + 1) (wrap64 (acc + wrap64 (cntS x.f4[i]))) (by omega) (by omega)
        simp only at h2
        refine ⟨max K1 K2 + 1, fun k hk => ?_⟩
        obtain ⟨k, rfl⟩ : ∃ m, k = m + 1 := ⟨k - 1, by omega⟩
        simp only [ladderbackref26_Size.l0]
        rw [if_pos (by omega), if_pos (by omega), rd_at _ i hlt, h1 k (by omega)]
        simp only [Option.bind_some]
        rw [next_i _ i hlt hm, h2 k (by omega), if_pos hlt, List.drop_eq_getElem_cons hlt]
        congr 1
        by_cases hl : i + 1 < x.f4.length
        · rw [if_pos hl, wrap_add' acc, wrap_add]
          congr 1
          simp only [cntL]
          omega
        · rw [if_neg hl, wrap_add', List.drop_of_length_le (by omega)]
          simp only [cntL, Nat.add_zero]
    obtain ⟨K, h⟩ := loop x.f4.length 0 1 (by omega) (by omega)
    simp only at h
    refine ⟨K + 1, fun k hk => ?_⟩
    obtain ⟨k, rfl⟩ : ∃ m, k = m + 1 := ⟨k - 1, by omega⟩
    simp only [ladderbackref26_Size.f]
    have := h k (by omega)
    rw [show (((0 : Nat)) : Int) = 0 from rfl] at this
    rw [this]
    congr 1
    rw [cntS_eq]
    split
    · rw [List.drop_zero]; rfl
    · rw [show x.f4 = [] from List.length_eq_zero_iff.1 (by omega)]
      simp only [cntL]
      rw [wrap_id _ (by omega) (by omega)]
      rfl
/-! ### how deep -/
mutual
def depS : S55 → Int
  | ⟨_, _, _, _, l⟩ => wrap64 (depL 0 l + 1)
def depL : Int → List S55 → Int
  | n, [] => n
  | n, x :: xs => depL (mx n (depS x)) xs
end
theorem depS_eq (x : S55) : depS x = wrap64 (depL 0 x.f4 + 1) := by obtain ⟨a, b, c, d, l⟩ := x; simp only [depS]
theorem deep_ev : ∀ (n : Nat) (x : S55), SizeOf.sizeOf x ≤ n → W55 x → Ev (fun k => expr_Deep.f k x.f0 x.f1 x.f2 x.f3 x.f4) (depS x) := by
  intro n
  induction n with
  | zero => intro x h; exact absurd h (by obtain ⟨a, b, c, d, l⟩ := x; simp only [S55.mk.sizeOf_spec]; omega)
  | succ n ih =>
    intro x hn hx
    have hm := len_w hx
    have loop : ∀ (d i : Nat) (acc : Int), x.f4.length - i = d → i ≤ x.f4.length → Ev (fun k => expr_Deep.l0 k acc x.f4 (x.f4.length : Int) (i : Int)) (wrap64 (depL acc (x.f4.drop i) + 1)) := by
      intro d
      induction d with
      | zero =>
        intro i acc hd hi
        refine ⟨1, fun k hk => ?_⟩
        obtain ⟨k, rfl⟩ : ∃ m, k = m + 1 := ⟨k - 1, by omega⟩
        simp only [expr_Deep.l0]
        rw [if_neg (by omega), List.drop_of_length_le (by omega)]
        simp only [depL]
      | succ d ihd =>
        intro i acc hd hi
        have hlt : i < x.f4.length := by omega
        obtain ⟨K1, h1⟩ := ih x.f4[i] (by have := kid_lt x i hlt; omega) (kid_w hx i hlt)
        simp only at h1
        obtain ⟨K2, h2⟩ := ihd (i + 1) (mx acc (depS x.f4[i])) (by omega) (by omega)
        simp only at h2
        refine ⟨max K1 K2 + 1, fun k hk => ?_⟩
        obtain ⟨k, rfl⟩ : ∃ m, k = m + 1 := ⟨k - 1, by omega⟩
        simp only [expr_Deep.l0]
        rw [if_pos (by omega), if_pos (by omega), if_pos (by omega), rd_at _ i hlt, h1 k (by omega)]
        simp only [Option.bind_some]
        rw [next_i _ i hlt hm, h2 k (by omega), List.drop_eq_getElem_cons hlt]
        simp only [depL]
    obtain ⟨K, h⟩ := loop x.f4.length 0 0 (by omega) (by omega)
    simp only at h
    refine ⟨K + 1, fun k hk => ?_⟩
    obtain ⟨k, rfl⟩ : ∃ m, k = m + 1 := ⟨k - 1, by omega⟩
    simp only [expr_Deep.f]
    have := h k (by omega)
    rw [show (((0 : Nat)) : Int) = 0 from rfl, List.drop_zero] at this
    rw [this, depS_eq]
theorem rdeep_ev : ∀ (n : Nat) (x : S55), SizeOf.sizeOf x ≤ n → W55 x → Ev (fun k => ladderbackref26_Deep.f k x.f0 x.f1 x.f2 x.f3 x.f4) (depS x) := by
  intro n
  induction n with
  | zero => intro x h; exact absurd h (by obtain ⟨a, b, c, d, l⟩ := x; simp only [S55.mk.sizeOf_spec]; omega)
  | succ n ih =>
    intro x hn hx
    have hm := len_w hx
    have loop : ∀ (d i : Nat) (acc : Int), x.f4.length - i = d → i ≤ x.f4.length → Ev (fun k => ladderbackref26_Deep.l0 k acc (i : Int) x.f0 x.f1 x.f2 x.f3 x.f4) (wrap64 (depL acc (x.f4.drop i) + 1)) := by
      intro d
      induction d with
      | zero =>
        intro i acc hd hi
        refine ⟨1, fun k hk => ?_⟩
        obtain ⟨k, rfl⟩ : ∃ m, k = m + 1 := ⟨k - 1, by omega⟩
        simp only [ladderbackref26_Deep.l0]
        rw [if_neg (by omega), List.drop_of_length_le (by omega)]
        simp only [depL]
      | succ d ihd =>
        intro i acc hd hi
        have hlt : i < x.f4.length := by omega
        obtain ⟨K1, h1⟩ := ih x.f4[i] (by have := kid_lt x i hlt; omega) (kid_w hx i hlt)
        simp only at h1
        obtain ⟨K2, h2⟩ := ihd (i + 1) (mx acc (depS x.f4[i])) (by omega) (by omega)
        simp only at h2
        refine ⟨max K1 K2 + 1, fun k hk => ?_⟩
        obtain ⟨k, rfl⟩ : ∃ m, k = m + 1 := ⟨k - 1, by omega⟩
        simp only [ladderbackref26_Deep.l0]
        rw [if_pos (by omega), if_pos (by omega), rd_at _ i hlt, h1 k (by omega)]
        simp only [Option.bind_some]
        have h3 := h2 k (by omega)
        rw [next_i _ i hlt hm, List.drop_eq_getElem_cons hlt]
        simp only [depL]
        by_cases hq : depS x.f4[i] > acc
        · rw [if_pos hq]
          have hm2 : mx acc (depS x.f4[i]) = depS x.f4[i] := by unfold mx; rw [if_pos (by omega)]
          rw [hm2] at h3 ⊢
          exact h3
        · rw [if_neg hq]
          have hm2 : mx acc (depS x.f4[i]) = acc := by unfold mx; rw [if_neg (by omega)]
          rw [hm2] at h3 ⊢
          exact h3
    obtain ⟨K, h⟩ := loop x.f4.length 0 0 (by omega) (by omega)
    simp only at h
    refine ⟨K + 1, fun k hk => ?_⟩
    obtain ⟨k, rfl⟩ : ∃ m, k = m + 1 := ⟨k - 1, by omega⟩
    simp only [ladderbackref26_Deep.f]
    have := h k (by omega)
    rw [show (((0 : Nat)) : Int) = 0 from rfl, List.drop_zero] at this
    rw [this, depS_eq]
/-! ### whether it may fail -/
mutual
def mayS : S55 → Bool
  | ⟨a0, _, _, a3, l⟩ => mayL l || mayHere a0 a3
def mayL : List S55 → Bool
  | [] => false
  | x :: xs => mayS x || mayL xs
end
theorem mayS_eq (x : S55) : mayS x = (mayL x.f4 || mayHere x.f0 x.f3) := by obtain ⟨a, b, c, d, l⟩ := x; simp only [mayS]
mutual
theorem foldS_may : ∀ (x : S55) (s : Bool), foldSM s x = (s || mayS x)
  | ⟨a0, a1, a2, a3, l⟩, s => by
    simp only [foldSM, mayS, stepM]
    rw [foldL_may l]
    cases s <;> cases mayHere a0 a3 <;> cases mayL l <;> rfl
theorem foldL_may : ∀ (l : List S55) (s : Bool), foldLM s l = (s || mayL l)
  | [], s => by simp only [foldLM, mayL, Bool.or_false]
  | x :: xs, s => by
    simp only [foldLM, mayL]
    rw [foldL_may xs, foldS_may x s, Bool.or_assoc]
end
theorem may_told (x : S55) : expr_May.f x.f0 x.f1 x.f2 x.f3 x.f4 = some (mayS x) := by
  have := foldS_may x false
  rw [foldSM_eq] at this
  unfold expr_May.f
  rw [this, Bool.false_or]
theorem rmay_ev : ∀ (n : Nat) (x : S55), SizeOf.sizeOf x ≤ n → W55 x → Ev (fun k => ladderbackref26_May.f k x.f0 x.f1 x.f2 x.f3 x.f4) (mayS x) := by
  intro n
  induction n with
  | zero => intro x h; exact absurd h (by obtain ⟨a, b, c, d, l⟩ := x; simp only [S55.mk.sizeOf_spec]; omega)
  | succ n ih =>
    intro x hn hx
    have hm := len_w hx
    have loop : ∀ (d i : Nat), x.f4.length - i = d → i ≤ x.f4.length → Ev (fun k => ladderbackref26_May.l0 k (i : Int) x.f0 x.f1 x.f2 x.f3 x.f4) (mayL (x.f4.drop i) || mayHere x.f0 x.f3) := by
      intro d
      induction d with
      | zero =>
        intro i hd hi
        refine ⟨1, fun k hk => ?_⟩
        obtain ⟨k, rfl⟩ : ∃ m, k = m + 1 := ⟨k - 1, by omega⟩
        simp only [ladderbackref26_May.l0]
        rw [if_neg (by omega), List.drop_of_length_le (by omega)]
        simp only [mayL, Bool.false_or, mayHere]
        by_cases h4 : x.f0 = 4
        · rw [if_pos h4, h4]; rfl
        · rw [if_neg h4, beq_eq_false_iff_ne.2 h4, Bool.false_or]
          by_cases h7 : x.f0 = 7
          · rw [if_pos h7, h7]
            by_cases h11 : x.f3 = 11
            · rw [if_pos h11, h11]; rfl
            · rw [if_neg h11, beq_eq_false_iff_ne.2 h11]; simp
          · rw [if_neg h7, beq_eq_false_iff_ne.2 h7]; rfl
      | succ d ihd =>
        intro i hd hi
        have hlt : i < x.f4.length := by omega
        obtain ⟨K1, h1⟩ := ih x.f4[i] (by have := kid_lt x i hlt; omega) (kid_w hx i hlt)
        simp only at h1
        obtain ⟨K2, h2⟩ := ihd (i + 1) (by omega) (by omega)
        simp only at h2
        refine ⟨max K1 K2 + 1, fun k hk => ?_⟩
        obtain ⟨k, rfl⟩ : ∃ m, k = m + 1 := ⟨k - 1, by omega⟩
        simp only [ladderbackref26_May.l0]
        rw [if_pos (by omega), if_pos (by omega), rd_at _ i hlt, h1 k (by omega)]
        simp only [Option.bind_some]
        rw [List.drop_eq_getElem_cons hlt]
        simp only [mayL]
        by_cases hs : mayS x.f4[i] = true
        · rw [if_pos hs, hs]; rfl
        · rw [if_neg hs, next_i _ i hlt hm, h2 k (by omega)]
          simp only [Bool.not_eq_true] at hs
          rw [hs, Bool.false_or]
    obtain ⟨K, h⟩ := loop x.f4.length 0 (by omega) (by omega)
    simp only at h
    refine ⟨K + 1, fun k hk => ?_⟩
    obtain ⟨k, rfl⟩ : ∃ m, k = m + 1 := ⟨k - 1, by omega⟩
    simp only [ladderbackref26_May.f]
    have := h k (by omega)
    rw [show (((0 : Nat)) : Int) = 0 from rfl, List.drop_zero] at this
    rw [this, mayS_eq]
/-! ### whether two are the same -/
mutual
def samS : S55 → S55 → Bool
  | ⟨a0, a1, a2, a3, l⟩, ⟨b0, b1, b2, b3, m⟩ => decide (a0 = b0) && (decide (a1 = b1) && (decide (a2 = b2) && (decide (a3 = b3) && (decide (l.length = m.length) && samL l m))))
def samL : List S55 → List S55 → Bool
  | x :: xs, y :: ys => samS x y && samL xs ys
  | _, _ => true
end
theorem samS_eq (x y : S55) : samS x y = (decide (x.f0 = y.f0) && (decide (x.f1 = y.f1) && (decide (x.f2 = y.f2) && (decide (x.f3 = y.f3) && (decide (x.f4.length = y.f4.length) && samL x.f4 y.f4))))) := by
  obtain ⟨a, b, c, d, l⟩ := x; obtain ⟨a', b', c', d', l'⟩ := y; simp only [samS]
mutual
theorem samS_refl : ∀ (x : S55), samS x x = true
  | ⟨a0, a1, a2, a3, l⟩ => by simp only [samS, decide_true, Bool.true_and]; exact samL_refl l
theorem samL_refl : ∀ (l : List S55), samL l l = true
  | [] => by simp only [samL]
  | x :: xs => by simp only [samL]; rw [samS_refl x, samL_refl xs]; rfl
end
theorem same_ev : ∀ (n : Nat) (x y : S55), SizeOf.sizeOf x ≤ n → W55 x → Ev (fun k => expr_Same.f k x.f0 x.f1 x.f2 x.f3 x.f4 y.f0 y.f1 y.f2 y.f3 y.f4) (samS x y) := by
  intro n
  induction n with
  | zero => intro x y h; exact absurd h (by obtain ⟨a, b, c, d, l⟩ := x; simp only [S55.mk.sizeOf_spec]; omega)
  | succ n ih =>
    intro x y hn hx
    have hm := len_w hx
    have no : Ev (fun k => expr_Same.j0 k true x.f0 x.f1 x.f2 x.f3 x.f4 y.f0 y.f1 y.f2 y.f3 y.f4) false := ⟨1, fun k hk => by
      obtain ⟨k, rfl⟩ : ∃ m, k = m + 1 := ⟨k - 1, by omega⟩
      simp only [expr_Same.j0, if_true]⟩
    have loop : x.f4.length = y.f4.length → ∀ (d i : Nat), x.f4.length - i = d → i ≤ x.f4.length → Ev (fun k => expr_Same.l0 k (x.f4.length : Int) (i : Int) x.f0 x.f1 x.f2 x.f3 x.f4 y.f0 y.f1 y.f2 y.f3 y.f4) (samL (x.f4.drop i) (y.f4.drop i)) := by
      intro hl d
      induction d with
      | zero =>
        intro i hd hi
        refine ⟨1, fun k hk => ?_⟩
        obtain ⟨k, rfl⟩ : ∃ m, k = m + 1 := ⟨k - 1, by omega⟩
        simp only [expr_Same.l0]
        rw [if_neg (by omega), List.drop_of_length_le (by omega)]
        simp only [samL]
      | succ d ihd =>
        intro i hd hi
        have hlt : i < x.f4.length := by omega
        have hlt2 : i < y.f4.length := by omega
        obtain ⟨K1, h1⟩ := ih x.f4[i] y.f4[i] (by have := kid_lt x i hlt; omega) (kid_w hx i hlt)
        simp only at h1
        obtain ⟨K2, h2⟩ := ihd (i + 1) (by omega) (by omega)
        simp only at h2
        refine ⟨max K1 K2 + 1, fun k hk => ?_⟩
        obtain ⟨k, rfl⟩ : ∃ m, k = m + 1 := ⟨k - 1, by omega⟩
        simp only [expr_Same.l0]
        rw [if_pos (by omega), if_pos (by omega), if_pos (by omega), if_pos (by omega), rd_at _ i hlt, rd_at _ i hlt2, h1 k (by omega)]
        simp only [Option.bind_some]
        rw [List.drop_eq_getElem_cons hlt, List.drop_eq_getElem_cons hlt2]
        simp only [samL]
        by_cases hs : samS x.f4[i] y.f4[i] = true
        · rw [if_pos hs, next_i _ i hlt hm, h2 k (by omega), hs, Bool.true_and]
        · rw [if_neg hs]
          simp only [Bool.not_eq_true] at hs
          rw [hs, Bool.false_and]
    rw [samS_eq]
    obtain ⟨K0, h0⟩ := no
    simp only at h0
    by_cases c0 : x.f0 = y.f0
    · by_cases c1 : x.f1 = y.f1
      · by_cases c2 : x.f2 = y.f2
        · by_cases c3 : x.f3 = y.f3
          · by_cases c4 : x.f4.length = y.f4.length
            · obtain ⟨K, h⟩ := loop c4 x.f4.length 0 (by omega) (by omega)
              simp only at h
              refine ⟨K + 2, fun k hk => ?_⟩
              obtain ⟨k, rfl⟩ : ∃ m, k = m + 2 := ⟨k - 2, by omega⟩
              have := h k (by omega)
              rw [show (((0 : Nat)) : Int) = 0 from rfl, List.drop_zero, List.drop_zero] at this
              simp only [expr_Same.f, expr_Same.j0]
              rw [if_pos c0, if_pos c1, if_pos c2, if_pos c3, if_neg (by simp [c4]), this]
              simp only [c0, c1, c2, c3, c4, decide_true, Bool.true_and]
            · refine ⟨K0 + 2, fun k hk => ?_⟩
              obtain ⟨k, rfl⟩ : ∃ m, k = m + 1 := ⟨k - 1, by omega⟩
              simp only [expr_Same.f]
              rw [if_pos c0, if_pos c1, if_pos c2, if_pos c3, show ((x.f4.length : Int) != (y.f4.length : Int)) = true by simp; omega, h0 k (by omega)]
              simp [c4]
          · refine ⟨K0 + 2, fun k hk => ?_⟩
            obtain ⟨k, rfl⟩ : ∃ m, k = m + 1 := ⟨k - 1, by omega⟩
            simp only [expr_Same.f]
            rw [if_pos c0, if_pos c1, if_pos c2, if_neg c3, h0 k (by omega)]
            simp [c3]
        · refine ⟨K0 + 2, fun k hk => ?_⟩
          obtain ⟨k, rfl⟩ : ∃ m, k = m + 1 := ⟨k - 1, by omega⟩
          simp only [expr_Same.f]
          rw [if_pos c0, if_pos c1, if_neg c2, h0 k (by omega)]
          simp [c2]
      · refine ⟨K0 + 2, fun k hk => ?_⟩
        obtain ⟨k, rfl⟩ : ∃ m, k = m + 1 := ⟨k - 1, by omega⟩
        simp only [expr_Same.f]
        rw [if_pos c0, if_neg c1, h0 k (by omega)]
        simp [c1]
    · refine ⟨K0 + 2, fun k hk => ?_⟩
      obtain ⟨k, rfl⟩ : ∃ m, k = m + 1 := ⟨k - 1, by omega⟩
      simp only [expr_Same.f]
      rw [if_neg c0, h0 k (by omega)]
      simp [c0]
theorem rsame_ev : ∀ (n : Nat) (x y : S55), SizeOf.sizeOf x ≤ n → W55 x → Ev (fun k => ladderbackref26_Same.f k x.f0 x.f1 x.f2 x.f3 x.f4 y.f0 y.f1 y.f2 y.f3 y.f4) (samS x y) := by
  intro n
  induction n with
  | zero => intro x y h; exact absurd h (by obtain ⟨a, b, c, d, l⟩ := x; simp only [S55.mk.sizeOf_spec]; omega)
  | succ n ih =>
    intro x y hn hx
    have hm := len_w hx
    have no : Ev (fun k => ladderbackref26_Same.j0 k true x.f0 x.f1 x.f2 x.f3 x.f4 y.f0 y.f1 y.f2 y.f3 y.f4) false := ⟨1, fun k hk => by
      obtain ⟨k, rfl⟩ : ∃ m, k = m + 1 := ⟨k - 1, by omega⟩
      simp only [ladderbackref26_Same.j0, if_true]⟩
    have loop : x.f4.length = y.f4.length → ∀ (d i : Nat), x.f4.length - i = d → i ≤ x.f4.length → Ev (fun k => ladderbackref26_Same.l0 k (i : Int) x.f0 x.f1 x.f2 x.f3 x.f4 y.f0 y.f1 y.f2 y.f3 y.f4) (samL (x.f4.drop i) (y.f4.drop i)) := by
      intro hl d
      induction d with
      | zero =>
        intro i hd hi
        refine ⟨1, fun k hk => ?_⟩
        obtain ⟨k, rfl⟩ : ∃ m, k = m + 1 := ⟨k - 1, by omega⟩
        simp only [ladderbackref26_Same.l0]
        rw [if_neg (by omega), List.drop_of_length_le (by omega)]
        simp only [samL]
      | succ d ihd =>
        intro i hd hi
        have hlt : i < x.f4.length := by omega
        have hlt2 : i < y.f4.length := by omega
        obtain ⟨K1, h1⟩ := ih x.f4[i] y.f4[i] (by have := kid_lt x i hlt; omega) (kid_w hx i hlt)
        simp only at h1
        obtain ⟨K2, h2⟩ := ihd (i + 1) (by omega) (by omega)
        simp only at h2
        refine ⟨max K1 K2 + 1, fun k hk => ?_⟩
        obtain ⟨k, rfl⟩ : ∃ m, k = m + 1 := ⟨k - 1, by omega⟩
        simp only [ladderbackref26_Same.l0]
        rw [if_pos (by omega), if_pos (by omega), if_pos (by omega), rd_at _ i hlt, rd_at _ i hlt2, h1 k (by omega)]
        simp only [Option.bind_some]
        rw [List.drop_eq_getElem_cons hlt, List.drop_eq_getElem_cons hlt2]
        simp only [samL]
        by_cases hs : samS x.f4[i] y.f4[i] = true
        · rw [if_pos hs, next_i _ i hlt hm, h2 k (by omega), hs, Bool.true_and]
        · rw [if_neg hs]
          simp only [Bool.not_eq_true] at hs
          rw [hs, Bool.false_and]
    rw [samS_eq]
    obtain ⟨K0, h0⟩ := no
    simp only at h0
    by_cases c0 : x.f0 = y.f0
    · by_cases c1 : x.f1 = y.f1
      · by_cases c2 : x.f2 = y.f2
        · by_cases c3 : x.f3 = y.f3
          · by_cases c4 : x.f4.length = y.f4.length
            · obtain ⟨K, h⟩ := loop c4 x.f4.length 0 (by omega) (by omega)
              simp only at h
              refine ⟨K + 2, fun k hk => ?_⟩
              obtain ⟨k, rfl⟩ : ∃ m, k = m + 2 := ⟨k - 2, by omega⟩
              have := h k (by omega)
              rw [show (((0 : Nat)) : Int) = 0 from rfl, List.drop_zero, List.drop_zero] at this
              simp only [ladderbackref26_Same.f, ladderbackref26_Same.j0]
              rw [if_pos c0, if_pos c1, if_pos c2, if_pos c3, if_neg (by simp [c4]), this]
              simp only [c0, c1, c2, c3, c4, decide_true, Bool.true_and]
            · refine ⟨K0 + 2, fun k hk => ?_⟩
              obtain ⟨k, rfl⟩ : ∃ m, k = m + 1 := ⟨k - 1, by omega⟩
              simp only [ladderbackref26_Same.f]
              rw [if_pos c0, if_pos c1, if_pos c2, if_pos c3, show ((x.f4.length : Int) != (y.f4.length : Int)) = true by simp; omega, h0 k (by omega)]
              simp [c4]
          · refine ⟨K0 + 2, fun k hk => ?_⟩
            obtain ⟨k, rfl⟩ : ∃ m, k = m + 1 := ⟨k - 1, by omega⟩
            simp only [ladderbackref26_Same.f]
            rw [if_pos c0, if_pos c1, if_pos c2, if_neg c3, h0 k (by omega)]
            simp [c3]
        · refine ⟨K0 + 2, fun k hk => ?_⟩
          obtain ⟨k, rfl⟩ : ∃ m, k = m + 1 := ⟨k - 1, by omega⟩
          simp only [ladderbackref26_Same.f]
          rw [if_pos c0, if_pos c1, if_neg c2, h0 k (by omega)]
          simp [c2]
      · refine ⟨K0 + 2, fun k hk => ?_⟩
        obtain ⟨k, rfl⟩ : ∃ m, k = m + 1 := ⟨k - 1, by omega⟩
        simp only [ladderbackref26_Same.f]
        rw [if_pos c0, if_neg c1, h0 k (by omega)]
        simp [c1]
    · refine ⟨K0 + 2, fun k hk => ?_⟩
      obtain ⟨k, rfl⟩ : ∃ m, k = m + 1 := ⟨k - 1, by omega⟩
      simp only [ladderbackref26_Same.f]
      rw [if_neg c0, h0 k (by omega)]
      simp [c0]
/-! ### few: some answer -/
theorem room_ev : ∀ (n : Nat) (x : S55) (a b : Int), SizeOf.sizeOf x ≤ n → W55 x → ∃ r, Ev (fun k => ladderbackref26_Room.f k x.f0 x.f1 x.f2 x.f3 x.f4 a b) r := by
  intro n
  induction n with
  | zero => intro x a b h; exact absurd h (by obtain ⟨a, b, c, d, l⟩ := x; simp only [S55.mk.sizeOf_spec]; omega)
  | succ n ih =>
    intro x a b hn hx
    have hm := len_w hx
    have loop : ∀ (d i : Nat) (acc : Int), x.f4.length - i = d → i ≤ x.f4.length → ∃ r, Ev (fun k => ladderbackref26_Room.l0 k acc b (i : Int) x.f0 x.f1 x.f2 x.f3 x.f4) r := by
      intro d
      induction d with
      | zero =>
        intro i acc hd hi
        refine ⟨acc, 1, fun k hk => ?_⟩
        obtain ⟨k, rfl⟩ : ∃ m, k = m + 1 := ⟨k - 1, by omega⟩
        simp only [ladderbackref26_Room.l0]
        rw [if_neg (by omega)]
      | succ d ihd =>
        intro i acc hd hi
        have hlt : i < x.f4.length := by omega
        obtain ⟨r1, K1, h1⟩ := ih x.f4[i] acc (wrap64 (b - 1)) (by have := kid_lt x i hlt; omega) (kid_w hx i hlt)
        simp only at h1
        obtain ⟨r2, K2, h2⟩ := ihd (i + 1) r1 (by omega) (by omega)
        simp only at h2
        refine ⟨if r1 < 0 then -1 else r2, max K1 K2 + 1, fun k hk => ?_⟩
        obtain ⟨k, rfl⟩ : ∃ m, k = m + 1 := ⟨k - 1, by omega⟩
        simp only [ladderbackref26_Room.l0]
        rw [if_pos (by omega), if_pos (by omega), rd_at _ i hlt, h1 k (by omega)]
        simp only [Option.bind_some]
        rw [next_i _ i hlt hm, h2 k (by omega)]
        split <;> rfl
    obtain ⟨r, K, h⟩ := loop x.f4.length 0 (wrap64 (a - 1)) (by omega) (by omega)
    simp only at h
    refine ⟨if a < 1 then -1 else if b < 1 then -1 else r, K + 2, fun k hk => ?_⟩
    obtain ⟨k, rfl⟩ : ∃ m, k = m + 2 := ⟨k - 2, by omega⟩
    have := h k (by omega)
    rw [show (((0 : Nat)) : Int) = 0 from rfl] at this
    simp only [ladderbackref26_Room.f, ladderbackref26_Room.j0]
    by_cases ha : a < 1
    · rw [if_pos ha, if_pos ha]; rfl
    · rw [if_neg ha, if_neg ha]
      by_cases hb : b < 1
      · rw [if_pos hb, if_pos (by simpa using hb)]
      · rw [if_neg hb, if_neg (by simpa using hb), this]
theorem few_ev (x : S55) (a : Int) (hx : W55 x) : ∃ r, Ev (fun k => ladderbackref26_Few.f k x.f0 x.f1 x.f2 x.f3 x.f4 a) r := by
  obtain ⟨r, K, h⟩ := room_ev _ x a 40 (Nat.le_refl _) hx
  simp only at h
  exact ⟨_, K, fun k hk => by show ladderbackref26_Few.f k x.f0 x.f1 x.f2 x.f3 x.f4 a = _; unfold ladderbackref26_Few.f; rw [h k hk]; rfl⟩
theorem awake_type (k : Nat) : expr_Type.f (k + 9) [] [] [] [] 7 0 0 20 [(⟨1, 2, 5, 0, []⟩ : S55), (⟨1, 2, 5, 0, []⟩ : S55)] = some 1 := by
  have hg : aluGo 20 2 = true := by decide
  have hw : IntKind.i16.wrap 5 = 5 := by decide
  have leaf : ∀ k, expr_leaf.f (k + 1) [] [] [] [] 1 2 5 0 [] = some 2 := by
    intro k
    simp [expr_leaf.f, expr_leaf.j0, kind_In.f, kind_Right.f, kind_Wrap.f, hw, wrap64]
  have kid : ∀ k, expr_Type.f (k + 3) [] [] [] [] 1 2 5 0 [] = some 2 := by
    intro k
    simp [expr_Type.f, expr_Type.l0, leaf]
  have two : ∀ k, expr_two.f (k + 2) 7 0 0 20 [(⟨1, 2, 5, 0, []⟩ : S55), (⟨1, 2, 5, 0, []⟩ : S55)] 2 2 = some 1 := by
    intro k
    simp [expr_two.f, expr_two.j0, expr_two.j1, alu_Binary.f, alu_Result.f, alu_Goes.f, alu_compares.f, hg, wrap64]
  simp only [expr_Type.f, expr_Type.l0]
  simp [rd_T55, rd, kid, two, wrap64]
  rw [leaf (k + 4), leaf (k + 3)]
  simp [two (k + 3)]
theorem awake_ev : Ev (fun k => ladderbacklaw26_awake.f k) true := ⟨9, fun k hk => by
  obtain ⟨k, rfl⟩ : ∃ m, k = m + 9 := ⟨k - 9, by omega⟩
  show ladderbacklaw26_awake.f (k + 9) = some true
  unfold ladderbacklaw26_awake.f
  have hs : expr_Size.f 1 2 5 0 [] = some 1 := by unfold expr_Size.f; simp [foldLZ, stepZ, wrap64]
  rw [awake_type k]
  simp [hs]⟩
theorem hjT (x y : S55) (k : Nat) (a d : Int) (m s b : Bool) (g0 : ladderbacklaw26_awake.f k = some true) (g1 : expr_Size.f x.f0 x.f1 x.f2 x.f3 x.f4 = some a) (g2 : expr_May.f x.f0 x.f1 x.f2 x.f3 x.f4 = some m) (g3 : ladderbackref26_Size.f k x.f0 x.f1 x.f2 x.f3 x.f4 = some a)
    (g4 : expr_Deep.f k x.f0 x.f1 x.f2 x.f3 x.f4 = some d) (g5 : ladderbackref26_Deep.f k x.f0 x.f1 x.f2 x.f3 x.f4 = some d) (g6 : ladderbackref26_May.f k x.f0 x.f1 x.f2 x.f3 x.f4 = some m) (g7 : expr_Same.f k x.f0 x.f1 x.f2 x.f3 x.f4 y.f0 y.f1 y.f2 y.f3 y.f4 = some s) (g8 : ladderbackref26_Same.f k x.f0 x.f1 x.f2 x.f3 x.f4 y.f0 y.f1 y.f2 y.f3 y.f4 = some s) (g9 : expr_Same.f k x.f0 x.f1 x.f2 x.f3 x.f4 x.f0 x.f1 x.f2 x.f3 x.f4 = some true) :
    ladderbacklaw26_ExprTells.j0 (k + 1) b x.f0 x.f1 x.f2 x.f3 x.f4 y.f0 y.f1 y.f2 y.f3 y.f4 = some true := by
  rw [ladderbacklaw26_ExprTells.j0]
  cases b
  · rw [if_neg (by decide), g1, Option.bind_some, g3, Option.bind_some, if_pos rfl, g4, Option.bind_some, g5, Option.bind_some, if_pos rfl, g2, Option.bind_some, g6, Option.bind_some, if_pos (by simp), g7, Option.bind_some, g8, Option.bind_some, if_pos (by simp), g9, Option.bind_some, if_pos rfl, g0]
    exact Option.bind_some _ _
  · rw [if_pos rfl, g0]
    exact Option.bind_some _ _
theorem ExprTells : ladderbacklaw26_ExprTells.Pure := by
  intro x hx y hy
  obtain ⟨K0, h0⟩ := awake_ev
  simp only at h0
  obtain ⟨r1, K1, h1⟩ := few_ev x 300 hx
  simp only at h1
  obtain ⟨r2, K2, h2⟩ := few_ev y 300 hy
  simp only at h2
  obtain ⟨K3, h3⟩ := rsize_ev _ x (Nat.le_refl _) hx
  simp only at h3
  obtain ⟨K4, h4⟩ := deep_ev _ x (Nat.le_refl _) hx
  simp only at h4
  obtain ⟨K5, h5⟩ := rdeep_ev _ x (Nat.le_refl _) hx
  simp only at h5
  obtain ⟨K6, h6⟩ := rmay_ev _ x (Nat.le_refl _) hx
  simp only at h6
  obtain ⟨K7, h7⟩ := same_ev _ x y (Nat.le_refl _) hx
  simp only at h7
  obtain ⟨K8, h8⟩ := rsame_ev _ x y (Nat.le_refl _) hx
  simp only at h8
  obtain ⟨K9, h9⟩ := same_ev _ x x (Nat.le_refl _) hx
  simp only at h9
  obtain ⟨k, hk⟩ : ∃ k, K0 ≤ k ∧ K1 ≤ k ∧ K2 ≤ k ∧ K3 ≤ k ∧ K4 ≤ k ∧ K5 ≤ k ∧ K6 ≤ k ∧ K7 ≤ k ∧ K8 ≤ k ∧ K9 ≤ k := ⟨K0 + K1 + K2 + K3 + K4 + K5 + K6 + K7 + K8 + K9, by omega⟩
  have hj : ∀ b, ladderbacklaw26_ExprTells.j0 (k + 1) b x.f0 x.f1 x.f2 x.f3 x.f4 y.f0 y.f1 y.f2 y.f3 y.f4 = some true := by
    intro b
    rw [samS_refl] at h9
    exact hjT x y k _ _ _ _ b (h0 k (by omega)) (size_told x) (may_told x) (h3 k (by omega)) (h4 k (by omega)) (h5 k (by omega)) (h6 k (by omega)) (h7 k (by omega)) (h8 k (by omega)) (h9 k (by omega))
  refine ⟨k + 1, ?_⟩
  unfold ladderbacklaw26_ExprTells.f
  rw [h1 (k + 1) (by omega), h2 (k + 1) (by omega)]
  simp only [Option.bind_some]
  rw [hj, hj]
  simp
end Go.Proofs.YticmkjkngngdhaaDoor.Pure
