/- The type of an expression by the reference is the same function of its parts: plain. No condition. -/
import Derived.Test.YtfioegoeeflkbaaDoorPtExprTypes
namespace Go.Proofs.YtfioegoeeflkbaaDoor.PtrExprTypes
open Go.Proofs.YtfioegoeeflkbaaDoor Go.Proofs.YtfioegoeeflkbaaDoor.QExprTypes Go.Proofs.YtfioegoeeflkbaaDoor.PtExprTypes Go.RowKit Go.Proofs.YtfioegoeeflkbaaDoorW.PrintWords Go.Proofs.YtfioegoeeflkbaaDoorW.PrintLast Go.Proofs.YtfioegoeeflkbaaDoorW.PrintMore
set_option linter.unusedSimpArgs false
set_option linter.unusedVariables false
theorem rightE (t : Int) : ladderbackref01_Right.f t = some (decide (1 ≤ t ∧ t ≤ 6)) := by
  simp only [ladderbackref01_Right.f]
  grind
theorem ref01_InE (t v : Int) : ladderbackref01_In.f t v = some (inS t v) := by
  unfold ladderbackref01_In.f
  rw [rightE]
  rcases six t with rfl | rfl | rfl | rfl | rfl | rfl | h
  · simp [ladderbackref01_Low.f, ladderbackref01_High.f, inS]; split <;> simp <;> grind
  · simp [ladderbackref01_Low.f, ladderbackref01_High.f, inS]; split <;> simp <;> grind
  · simp [ladderbackref01_Low.f, ladderbackref01_High.f, inS]; split <;> simp <;> grind
  · simp [ladderbackref01_Low.f, ladderbackref01_High.f, inS]; split <;> simp <;> grind
  · simp [ladderbackref01_Low.f, ladderbackref01_High.f, inS]; split <;> simp <;> grind
  · simp [inS]
  · rw [if_neg (by omega), decide_eq_false h, inS_out v h]; rfl
theorem goE (k : Nat) (op t : Int) : ladderbackref07_Goes.f (k + 7) op t = some (aluGo op t) := by
  by_cases h : (1 ≤ t ∧ t ≤ 6) ∧ (8 ≤ op ∧ op ≤ 25)
  · obtain ⟨h1, h2⟩ := h
    rcases (by omega : t = 1 ∨ t = 2 ∨ t = 3 ∨ t = 4 ∨ t = 5 ∨ t = 6) with rfl | rfl | rfl | rfl | rfl | rfl <;>
    rcases (by omega : op = 8 ∨ op = 9 ∨ op = 10 ∨ op = 11 ∨ op = 12 ∨ op = 13 ∨ op = 14 ∨ op = 15 ∨ op = 16 ∨ op = 17 ∨ op = 18 ∨ op = 19 ∨ op = 20 ∨ op = 21 ∨ op = 22 ∨ op = 23 ∨ op = 24 ∨ op = 25) with rfl | rfl | rfl | rfl | rfl | rfl | rfl | rfl | rfl | rfl | rfl | rfl | rfl | rfl | rfl | rfl | rfl | rfl <;> rfl
  · rw [goS_out op t h]
    simp only [ladderbackref07_Goes.f]
    by_cases ht : 1 ≤ t ∧ t ≤ 6
    · have ho : ¬ (8 ≤ op ∧ op ≤ 25) := fun ho => h ⟨ht, ho⟩
      rw [if_neg (by omega), decide_eq_false (show ¬ t > 6 by omega)]
      simp [ladderbackref07_Goes.j0, ladderbackref07_Goes.j1, ladderbackref07_Goes.j2, ladderbackref07_Goes.j3, ladderbackref07_Goes.j4, ladderbackref07_Goes.j5, show ¬ op = 8 by omega, show ¬ op = 9 by omega, show ¬ op = 10 by omega, show ¬ op = 11 by omega, show ¬ op = 12 by omega, show ¬ op = 13 by omega, show ¬ op = 14 by omega, show ¬ op = 15 by omega, show ¬ op = 16 by omega, show ¬ op = 17 by omega, show ¬ op = 18 by omega, show ¬ op = 19 by omega, show ¬ op = 20 by omega, show ¬ op = 21 by omega, show ¬ op = 22 by omega, show ¬ op = 23 by omega, show ¬ op = 24 by omega, show ¬ op = 25 by omega]
    · by_cases h1 : t < 1
      · rw [if_pos h1]; rfl
      · rw [if_neg h1, decide_eq_true (show t > 6 by omega)]; rfl
theorem rresE (k : Nat) (op t : Int) : ladderbackref07_Result.f (k + 7) op t = some (resS op t) := by
  simp only [ladderbackref07_Result.f, goE, Option.bind_some, resS]
  by_cases h : (1 ≤ t ∧ t ≤ 6) ∧ (8 ≤ op ∧ op ≤ 25)
  · grind
  · rw [goS_out op t h]; rfl
theorem fields_tyl (k : Nat) (d : Int) : ∃ nm n, ladderbackref11_Fields.f (k + 1) d = some (nm, tyl d, n) := by
  by_cases h : 1 ≤ d ∧ d ≤ 3
  · refine ⟨_, _, by simp only [ladderbackref11_Fields.f, ladderbackref11_Fields.j0, tyl, if_pos h, if_pos h.1, decide_eq_true h.2, if_true]; rfl⟩
  · have h2 : (if d ≥ 1 then ladderbackref11_Fields.j0 (k + 1) d (decide (d ≤ 3)) else ladderbackref11_Fields.j0 (k + 1) d false) = ladderbackref11_Fields.j0 (k + 1) d false := by
      split
      · rw [decide_eq_false (by omega)]
      · rfl
    unfold ladderbackref11_Fields.f
    rw [h2]
    simp only [ladderbackref11_Fields.j0, tyl, if_neg h, Bool.false_eq_true, if_false]
    by_cases h4 : d = 4
    · subst h4; exact ⟨_, _, rfl⟩
    by_cases h5 : d = 5
    · subst h5; exact ⟨_, _, rfl⟩
    by_cases h6 : d = 6
    · subst h6; exact ⟨_, _, rfl⟩
    by_cases h7 : d = 7
    · subst h7; exact ⟨_, _, rfl⟩
    by_cases h8 : d = 8
    · subst h8; exact ⟨_, _, rfl⟩
    rw [if_neg h4, if_neg h5, if_neg h6, if_neg h7, if_neg h8, if_neg h4, if_neg h5, if_neg h6, if_neg h7, if_neg h8]
    exact ⟨_, _, rfl⟩
theorem rbinE (m : Int) : ladderbackref07_Binary.f m = some (decide (8 ≤ m ∧ m ≤ 25 ∧ ¬ m = 13 ∧ ¬ m = 17)) := by
  unfold ladderbackref07_Binary.f
  repeat' split
  all_goals (congr 1; rw [Bool.eq_iff_iff]; simp; omega)
theorem rTail (k : Nat) (x : Int) : ((ladderbackref01_Right.f x).bind fun q => if q = true then some x else some 0) = some (rgt x) := by
  rw [rightE]
  unfold rgt
  by_cases h : 1 ≤ x ∧ x ≤ 6 <;> simp [h]
theorem rgt0 : rgt 0 = 0 := rfl
theorem w22 : wrap64 (Int.tdiv (wrap64 (2 - 2)) 2) = 0 := by decide +kernel
theorem w24 : wrap64 (Int.tdiv (wrap64 (4 - 2)) 2) = 1 := by decide +kernel
theorem w22' : wrap64 ((wrap64 0).tdiv 2) = 0 := by decide +kernel
theorem w24' : wrap64 ((wrap64 2).tdiv 2) = 1 := by decide +kernel
theorem refLeaf (k : Nat) (V : List S42) (B : List S44) (G : List S99) (Sl : List Int) (op t n m a b : Int) (l : List S30) : ladderbackref26_Type.j2 (k + 12) 0 a b false V B G Sl op t n m l = some (leafV V B Sl op t n m) := by
  unfold leafV
  simp only [ladderbackref26_Type.j2, Bool.false_eq_true, if_false]
  by_cases h1 : op = 1
  · subst h1
    simp only [if_true, ref01_InE, rightE, ladderbackref26_Type.j3, Option.bind_some]
    by_cases hm : m = 0
    · by_cases hr : 1 ≤ t ∧ t ≤ 6
      · by_cases hi : inS t n = true <;> simp [hm, hr, hi]
      · simp [hm, hr, inS_out n hr]
    · simp [hm]
  simp only [if_neg h1]
  by_cases h2 : op = 2
  · subst h2
    simp only [if_true, ladderbackref26_Type.j4, ladderbackref26_Type.j5, rTail k, rightE, w22]
    grind [rgt]
  simp only [if_neg h2]
  by_cases h4 : op = 4
  · subst h4
    simp only [ladderbackref26_Type.j4, ladderbackref26_Type.j5, rTail k, rightE, w24]
    grind [rgt]
  rw [show (op == 4) = false from beq_eq_false_iff_ne.2 h4]
  simp only [ladderbackref26_Type.j4, Bool.false_eq_true, if_false]
  by_cases h3 : op = 3
  · subst h3
    simp only [if_true, ladderbackref26_Type.j6, rTail k, rgt0]
    grind
  simp only [if_neg h3]
  by_cases h5 : op = 5
  · subst h5
    simp only [if_true, ladderbackref26_Type.j7, ladderbackref26_Type.j8, rTail k, rgt0]
    by_cases ht : t = 0 ∧ 0 ≤ n ∧ n < B.length
    · obtain ⟨nm, q, hf⟩ := fields_tyl (k + 8) (rd_T44 B n).f1
      rw [if_pos ht.1, if_pos ht.2.1, decide_eq_true ht.2.2, if_pos rfl, if_pos ht.2.1, if_pos ht.2.2, if_pos ht, hf, fldT_tyl]
      simp only [Option.bind_some]
      by_cases hm : 0 ≤ m
      · rw [if_pos hm]
        by_cases hl : m < (tyl (rd_T44 B n).f1).length
        · rw [decide_eq_true hl, if_pos rfl, if_pos hm, if_pos hl, if_pos ⟨hm, hl⟩]
          have h2 := tyl_right (rd_T44 B n).f1 m.toNat (by omega)
          congr 1
          show rgt ((tyl _).getD m.toNat 0) = _
          unfold rgt
          rw [if_pos h2]
        · rw [decide_eq_false hl, if_neg (by decide), if_neg (fun hh => hl hh.2)]
      · rw [if_neg hm, if_neg (by decide), if_neg (fun hh => hm hh.1)]
    · grind
  simp only [if_neg h5]
  simp only [ladderbackref26_Type.j9, ladderbackref26_Type.j10, ladderbackref26_Type.j11, rTail k, rgt0]
  grind
theorem refOne (k : Nat) (V : List S42) (B : List S44) (G : List S99) (Sl : List Int) (op t n m a b : Int) (l : List S30) : ladderbackref26_Type.j2 (k + 16) 1 a b false V B G Sl op t n m l = some (oneV V op t n m a) := by
  unfold oneV
  simp only [ladderbackref26_Type.j2, Bool.false_eq_true, if_false]
  by_cases h4 : op = 4
  · subst h4
    simp only [ladderbackref26_Type.j4, ladderbackref26_Type.j5, rTail k, rightE, w24]
    grind [rgt]
  by_cases h1 : op = 1
  · subst h1
    simp [ladderbackref26_Type.j3, rightE]
  simp only [if_neg h1]
  by_cases h2 : op = 2
  · subst h2
    simp [ladderbackref26_Type.j4, ladderbackref26_Type.j5, rightE, w22']
  simp only [if_neg h2, if_neg h4]
  rw [show (op == 4) = false from beq_eq_false_iff_ne.2 h4]
  simp only [ladderbackref26_Type.j4, Bool.false_eq_true, if_false]
  by_cases h3 : op = 3
  · subst h3
    simp [ladderbackref26_Type.j6, rightE]
  by_cases h5 : op = 5
  · subst h5
    simp [ladderbackref26_Type.j7, rightE]
  simp only [if_neg h3, if_neg h5]
  by_cases h6 : op = 6
  · subst h6
    simp only [if_true, ladderbackref26_Type.j9, rresE, Option.bind_some, rTail k, resS_rgt, rgt0]
    grind
  simp only [if_neg h6]
  by_cases h7 : op = 7
  · subst h7
    simp [ladderbackref26_Type.j10, rightE]
  simp only [if_neg h7, ladderbackref26_Type.j11, rTail k, rgt0]
  grind
theorem refTwo (k : Nat) (V : List S42) (B : List S44) (G : List S99) (Sl : List Int) (op t n m a b : Int) (l : List S30) : ladderbackref26_Type.j2 (k + 16) 2 a b false V B G Sl op t n m l = some (twoV op t n m a b) := by
  unfold twoV
  simp only [ladderbackref26_Type.j2, Bool.false_eq_true, if_false]
  by_cases h1 : op = 1
  · subst h1
    simp [ladderbackref26_Type.j3, rightE]
  by_cases h2 : op = 2
  · subst h2
    simp [ladderbackref26_Type.j4, ladderbackref26_Type.j5, rightE, w22']
  by_cases h4 : op = 4
  · subst h4
    simp [ladderbackref26_Type.j4, ladderbackref26_Type.j5, rightE, w24']
  simp only [if_neg h1, if_neg h2, if_neg h4]
  rw [show (op == 4) = false from beq_eq_false_iff_ne.2 h4]
  simp only [ladderbackref26_Type.j4, Bool.false_eq_true, if_false]
  by_cases h3 : op = 3
  · subst h3
    simp [ladderbackref26_Type.j6, rightE]
  by_cases h5 : op = 5
  · subst h5
    simp [ladderbackref26_Type.j7, rightE]
  by_cases h6 : op = 6
  · subst h6
    simp [ladderbackref26_Type.j9, rightE]
  simp only [if_neg h3, if_neg h5, if_neg h6]
  by_cases h7 : op = 7
  · subst h7
    simp only [if_true, ladderbackref26_Type.j10, rresE, Option.bind_some, rTail k, resS_rgt, rgt0, rbinE]
    grind
  simp only [if_neg h7, ladderbackref26_Type.j11, rTail k, rgt0]
  grind
theorem rd0 (l : List S30) (h : 0 < l.length) : rd_T30 l 0 = l[0] := rd_at l 0 h
theorem rd1 (l : List S30) (h : 1 < l.length) : rd_T30 l 1 = l[1] := rd_at l 1 h
theorem rtype_ev (V : List S42) (B : List S44) (G : List S99) (Sl : List Int) : ∀ (N : Nat) (x : S30), SizeOf.sizeOf x ≤ N → Ev (fun k => ladderbackref26_Type.f k V B G Sl x.f0 x.f1 x.f2 x.f3 x.f4) (tyS V B Sl x) := by
  intro N
  induction N with
  | zero => intro x h; exact absurd h (by have := sz_pos x; omega)
  | succ N ih =>
    intro x hN
    by_cases hl0 : x.f4.length = 0
    · refine ⟨20, fun k hk => ?_⟩
      obtain ⟨k, rfl⟩ : ∃ m, k = m + 1 := ⟨k - 1, by omega⟩
      have e : x.f4 = [] := List.length_eq_zero_iff.1 hl0
      simp only [ladderbackref26_Type.f]
      obtain ⟨k, rfl⟩ : ∃ m, k = m + 12 + 1 + 1 := ⟨k - 14, by omega⟩
      simp only [ladderbackref26_Type.j0, ladderbackref26_Type.j1]
      rw [tyS_eq V B Sl x, e]
      simp [tyK, refLeaf k]
    obtain ⟨K1, h1⟩ := ih x.f4[0] (by have := kid_lt x 0 (by omega); omega)
    simp only at h1
    by_cases hl1 : x.f4.length = 1
    · refine ⟨K1 + 20, fun k hk => ?_⟩
      obtain ⟨k, rfl⟩ : ∃ m, k = m + 1 := ⟨k - 1, by omega⟩
      obtain ⟨y, e⟩ := List.length_eq_one_iff.1 hl1
      simp only [ladderbackref26_Type.f]
      rw [if_pos (by omega), if_pos (by omega), rd0 _ (by omega), h1 _ (by omega), tyS_eq V B Sl x]
      obtain ⟨k, rfl⟩ : ∃ m, k = m + 16 + 1 + 1 := ⟨k - 18, by omega⟩
      simp only [ladderbackref26_Type.j0, ladderbackref26_Type.j1]
      simp only [Option.bind_some, hl1, e, List.getElem_cons_zero, List.map_cons, List.map_nil]
      generalize tyS V B Sl y = a
      by_cases ha : a = 0
      · subst ha
        simp [tyK, ladderbackref26_Type.j2]
      · have ha' : ¬ (0 = a) := fun h => ha h.symm
        simp [tyK, ha, ha', refOne k]
    obtain ⟨K2, h2⟩ := ih x.f4[1] (by have := kid_lt x 1 (by omega); omega)
    simp only at h2
    refine ⟨max K1 K2 + 20, fun k hk => ?_⟩
    obtain ⟨k, rfl⟩ : ∃ m, k = m + 1 := ⟨k - 1, by omega⟩
    simp only [ladderbackref26_Type.f]
    rw [if_pos (by omega), if_pos (by omega), rd0 _ (by omega), h1 _ (by omega)]
    obtain ⟨k, rfl⟩ : ∃ m, k = m + 1 := ⟨k - 1, by omega⟩
    simp only [Option.bind_some, ladderbackref26_Type.j0]
    rw [if_pos (by omega), if_pos (by omega), rd1 _ (by omega), h2 _ (by omega), tyS_eq V B Sl x]
    obtain ⟨k, rfl⟩ : ∃ m, k = m + 16 + 1 := ⟨k - 17, by omega⟩
    simp only [Option.bind_some, ladderbackref26_Type.j1]
    by_cases hl2 : x.f4.length = 2
    · obtain ⟨y, z, e⟩ : ∃ y z, x.f4 = [y, z] := by
        match hq : x.f4, hl2 with
        | [y, z], _ => exact ⟨y, z, rfl⟩
      simp only [hl2, e, List.getElem_cons_zero, List.getElem_cons_succ, List.map_cons, List.map_nil]
      generalize tyS V B Sl y = a
      generalize tyS V B Sl z = b
      by_cases ha : a = 0
      · subst ha
        simp [tyK, ladderbackref26_Type.j2]
      have ha' : ¬ (0 = a) := fun h => ha h.symm
      by_cases hb : b = 0
      · subst hb
        simp [tyK, ladderbackref26_Type.j2, ha, ha']
      have hb' : ¬ (0 = b) := fun h => hb h.symm
      rw [show (b == 0) = false from beq_eq_false_iff_ne.2 hb]
      simp [tyK, ha, ha', hb', refTwo k]
    · rw [if_pos (by omega)]
      simp only [ladderbackref26_Type.j2, if_true]
      congr 1
      unfold tyK
      split
      · rfl
      · split
        · rename_i h; have := congrArg List.length h; simp at this; simp [this] at hl0
        · rename_i h; have := congrArg List.length h; simp at this; omega
        · rename_i h; have := congrArg List.length h; simp at this; omega
        · rfl
end Go.Proofs.YtfioegoeeflkbaaDoor.PtrExprTypes
