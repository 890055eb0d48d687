/- num.Literal and the reference's: plain. No condition. -/
import Derived.Test.YticmkjkngngdhaaDoorPNumNumBack
namespace Go.Proofs.YticmkjkngngdhaaDoor.PNumBack
open Go.Proofs.YticmkjkngngdhaaDoor Go.Proofs.YticmkjkngngdhaaDoor.QNumBack Go.RowKit Go.Proofs.YticmkjkngngdhaaDoorW.PrintWords Go.Proofs.YticmkjkngngdhaaDoorW.PrintLast
set_option linter.unusedSimpArgs false
def inS (t v : Int) : Bool := if t = 6 then true else if t = 1 then decide (0 ≤ v ∧ v ≤ 1) else if t = 2 then decide (-32768 ≤ v ∧ v ≤ 32767) else if t = 3 then decide (-2147483648 ≤ v ∧ v ≤ 2147483647) else if t = 4 then decide (0 ≤ v ∧ v ≤ 65535) else if t = 5 then decide (0 ≤ v ∧ v ≤ 4294967295) else false
def litL (t v : Int) : List UInt8 := if inS t v = true then (if t = 1 then (if v = 1 then [84, 82, 85, 69] else [70, 65, 76, 83, 69]) else if t = 6 then [84, 35] ++ printL v ++ [109, 115] else (kindNm t).data.toList ++ [35] ++ printL v) else []
def litS (t v : Int) : ByteArray := ⟨(litL t v).toArray⟩
theorem printL_len (v : Int) (hw : (Lit.int .i64 v).wf = true) : (printL v).length ≤ 21 := by
  have hb := bounds_i64 hw
  have h20 : v.natAbs < 10 ^ (19 + 1) := by
    have : (10 : Nat) ^ (19 + 1) = 100000000000000000000 := by decide
    omega
  have hl : (dgs 20 v.natAbs []).length ≤ 20 := dgs_length 20 v.natAbs 19 h20
  unfold printL
  split
  · simp; omega
  · omega
theorem app_lists (a b : List UInt8) : (⟨a.toArray⟩ : ByteArray) ++ ⟨b.toArray⟩ = ⟨(a ++ b).toArray⟩ := by
  apply ByteArray.ext
  simp
theorem types (t : Int) (h : 1 ≤ t) (h' : t ≤ 6) : t = 1 ∨ t = 2 ∨ t = 3 ∨ t = 4 ∨ t = 5 ∨ t = 6 := by omega
theorem inS_out (t v : Int) (h : ¬ (1 ≤ t ∧ t ≤ 6)) : inS t v = false := by
  unfold inS
  rw [if_neg (by omega), if_neg (by omega), if_neg (by omega), if_neg (by omega), if_neg (by omega), if_neg (by omega)]
theorem right_in (t v : Int) (h : inS t v = true) : 1 ≤ t ∧ t ≤ 6 := by
  by_cases h' : 1 ≤ t ∧ t ≤ 6
  · exact h'
  · rw [inS_out t v h'] at h; cases h
theorem kind_In_eq (t v : Int) (hw : (Lit.int .i64 v).wf = true) : kind_In.f t v = some (inS t v) := by
  have hb := bounds_i64 hw
  unfold kind_In.f kind_Right.f
  by_cases h : 1 ≤ t ∧ t ≤ 6
  · rw [if_pos (by omega), show decide (t ≤ 6) = true by simp; omega]
    simp only [Option.bind_some, if_true]
    rcases types t h.1 h.2 with rfl | rfl | rfl | rfl | rfl | rfl
    · simp only [kind_Wrap.f, inS, show ¬ (1 : Int) = 6 by decide, if_false, if_true]
      split
      · rename_i hv; subst hv; rfl
      · rename_i hv
        simp only [Option.bind_some]; congr 1; rw [Bool.eq_iff_iff]; simp only [beq_iff_eq, decide_eq_true_eq]; omega
    · simp only [kind_Wrap.f, inS, show ¬ (2 : Int) = 1 by decide, show ¬ (2 : Int) = 6 by decide, if_false, if_true, Option.bind_some]
      congr 1; rw [Bool.eq_iff_iff]; simp only [IntKind.wrap, IntKind.signed, IntKind.bits, beq_iff_eq, decide_eq_true_eq]; unfold wrap64; simp only [if_true, Bool.false_and, Bool.false_eq_true, if_false, Bool.true_and, decide_eq_true_eq]; first | omega | (by_cases hq : v % 65536 ≥ 32768 <;> simp [hq] <;> omega)
    · simp only [kind_Wrap.f, inS, show ¬ (3 : Int) = 1 by decide, show ¬ (3 : Int) = 2 by decide, show ¬ (3 : Int) = 6 by decide, if_false, if_true, Option.bind_some]
      congr 1; rw [Bool.eq_iff_iff]; simp only [beq_iff_eq, decide_eq_true_eq]; unfold wrap64 wrap32; omega
    · simp only [kind_Wrap.f, inS, show ¬ (4 : Int) = 1 by decide, show ¬ (4 : Int) = 2 by decide, show ¬ (4 : Int) = 3 by decide, show ¬ (4 : Int) = 6 by decide, if_false, if_true, Option.bind_some]
      congr 1; rw [Bool.eq_iff_iff]; simp only [IntKind.wrap, IntKind.signed, IntKind.bits, beq_iff_eq, decide_eq_true_eq]; unfold wrap64; simp only [if_true, Bool.false_and, Bool.false_eq_true, if_false, Bool.true_and, decide_eq_true_eq]; first | omega | (by_cases hq : v % 65536 ≥ 32768 <;> simp [hq] <;> omega)
    · simp only [kind_Wrap.f, inS, show ¬ (5 : Int) = 1 by decide, show ¬ (5 : Int) = 2 by decide, show ¬ (5 : Int) = 3 by decide, show ¬ (5 : Int) = 4 by decide, show ¬ (5 : Int) = 6 by decide, if_false, if_true, Option.bind_some]
      congr 1; rw [Bool.eq_iff_iff]; simp only [beq_iff_eq, decide_eq_true_eq]; omega
    · simp [kind_Wrap.f, inS]
  · rw [inS_out t v h]
    by_cases h1 : t ≥ 1
    · rw [if_pos h1, show decide (t ≤ 6) = false by simp; omega]; simp
    · rw [if_neg h1]; simp
theorem nm_mk (t : Int) : kindNm t = ⟨(kindNm t).data.toList.toArray⟩ := mk_eq _
theorem nm_len (t : Int) : (kindNm t).data.toList.length ≤ 5 := by
  unfold kindNm
  repeat' split
  all_goals simp
theorem nliteral (t v : Int) (hw : (Lit.int .i64 v).wf = true) (k : Nat) (hk : 1 ≤ k) : num_Literal.f k t v = some (litS t v) := by
  obtain ⟨k, rfl⟩ : ∃ m, k = m + 1 := ⟨k - 1, by omega⟩
  have hp : num_Print.f v = some (printS v) := by unfold num_Print.f; rw [if_pos hw]
  have hl := printL_len v hw
  unfold num_Literal.f
  rw [kind_In_eq t v hw]
  simp only [Option.bind_some]
  by_cases h : inS t v = true
  · rw [if_pos h]
    unfold litS litL
    rw [if_pos h]
    by_cases h1 : t = 1
    · rw [if_pos h1, if_pos h1]
      subst h1
      by_cases hv : v = 1
      · simp [num_Literal.j0, hv]
      · simp [num_Literal.j0, hv]
    · rw [if_neg h1, if_neg h1]
      simp only [num_Literal.j0, Bool.false_eq_true, if_false]
      rw [if_neg h1, hp]
      simp only [Option.bind_some]
      by_cases h6 : t = 6
      · rw [if_pos h6, if_pos h6]
        rw [show printS v = ⟨(printL v).toArray⟩ from rfl, size_mk, if_pos (by omega)]
        rw [show (⟨#[84, 35]⟩ : ByteArray) = ⟨[84, 35].toArray⟩ from rfl, show (⟨#[109, 115]⟩ : ByteArray) = ⟨[109, 115].toArray⟩ from rfl]
        rw [app_lists, size_mk, if_pos (by simp; omega), app_lists]
      · rw [if_neg h6, if_neg h6]
        rw [show kind_Name.f t = some (kindNm t) from rfl]
        simp only [Option.bind_some]
        obtain ⟨q, hq⟩ : ∃ q : List UInt8, kindNm t = ⟨q.toArray⟩ := ⟨_, nm_mk t⟩
        have hn := nm_len t
        rw [hq] at hn ⊢
        change q.length ≤ 5 at hn
        rw [show printS v = ⟨(printL v).toArray⟩ from rfl, size_mk, if_pos (by omega)]
        rw [show (⟨#[35]⟩ : ByteArray) = ⟨[35].toArray⟩ from rfl, app_lists, size_mk, size_mk, if_pos (by simp only [List.length_append, List.length_cons, List.length_nil]; omega), app_lists]
  · rw [if_neg h]
    unfold litS litL
    rw [if_neg h]
end Go.Proofs.YticmkjkngngdhaaDoor.PNumBack
