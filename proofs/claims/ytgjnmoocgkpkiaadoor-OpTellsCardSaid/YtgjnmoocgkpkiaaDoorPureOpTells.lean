/- OpTells: the operations' shapes and words, what any text is the word of, and which instructions are right, are the reference's; plain. No condition. -/
import Derived.Test.YtgjnmoocgkpkiaaDoorQOpTellsx
namespace Go.Proofs.YtgjnmoocgkpkiaaDoor.Pure
open Go.Proofs.YtgjnmoocgkpkiaaDoor Go.Proofs.YtgjnmoocgkpkiaaDoor.QOpTells Go.RowKit Go.Proofs.YtgjnmoocgkpkiaaDoorW.PrintWords Go.Proofs.YtgjnmoocgkpkiaaDoorW.PrintLast Go.Proofs.YtgjnmoocgkpkiaaDoorW.PrintMore
set_option linter.unusedSimpArgs false
theorem awakeT : ladderbacklaw12_awake.f = some true := by decide +kernel
theorem words_eq : ladderbackref12_Words.f = some opWs := rfl
theorem shapeF (n : Int) : op_Shape.f n = some (opA n, opB n) := rfl
theorem ops38 (n : Int) (h : 0 ≤ n) (h' : n ≤ 37) : ∃ m : Fin 38, n = (m.1 : Int) := ⟨⟨n.toNat, by omega⟩, by simp; omega⟩
theorem shapeR (n : Int) (k : Nat) (hk : 3 ≤ k) : ladderbackref12_Shape.f k n = some (opA n, opB n) := by
  by_cases h : 0 ≤ n ∧ n ≤ 37
  · obtain ⟨m, rfl⟩ := ops38 n h.1 h.2
    have key : ∀ m : Fin 38, ladderbackref12_Shape.f 3 (m.1 : Int) = some (opA (m.1 : Int), opB (m.1 : Int)) := by decide +kernel
    exact at_rounds (ladderbackref12_Shape.mono _) hk (key m)
  · have hv : opA n = 0 := by unfold opA; rw [opIn_no n (by omega)]; rfl
    have hv2 : opB n = 0 := by unfold opB; rw [opIn_no n (by omega)]; rfl
    rw [hv, hv2]
    refine at_rounds (k := 1) (ladderbackref12_Shape.mono _) (by omega) ?_
    unfold ladderbackref12_Shape.f
    by_cases h0 : n < 0
    · rw [if_pos h0]; rfl
    · rw [if_neg h0, show decide (n > 37) = true by simp; omega]; rfl
theorem may_eq (n w : Int) : op_may.f n w = ladderbackref12_may.f n w := by
  unfold op_may.f ladderbackref12_may.f
  by_cases hn : n = 0
  · subst hn
    by_cases hw : w = 0
    · simp [hw]
    · simp [hw]
  · by_cases hw : w = 0
    · simp [hw, hn]
    · rw [if_neg hw, if_neg hn, if_neg hw]
      by_cases h0 : n > 0
      · rw [if_pos (by omega), if_pos h0]
        congr 1
        rw [Bool.eq_iff_iff]
        simp
        omega
      · rw [if_neg (by omega), if_neg h0]
theorem may_some (n w : Int) : ∃ b, ladderbackref12_may.f n w = some b := by
  unfold ladderbackref12_may.f
  repeat' split
  all_goals exact ⟨_, rfl⟩
theorem isF (n : Int) : op_Is.f n = some (opIn n) := by
  unfold op_Is.f opIn
  by_cases h : n ≥ 0
  · rw [if_pos h, show decide (0 ≤ n) = true by simpa using h, Bool.true_and]
  · rw [if_neg h, show decide (0 ≤ n) = false by simpa using h, Bool.false_and]
theorem right_eq (a b c : Int) (k : Nat) (hk : 3 ≤ k) : ∃ r, op_Right.f a b c = some r ∧ ladderbackref12_Right.f k a b c = some r := by
  unfold op_Right.f ladderbackref12_Right.f
  rw [shapeF, shapeR a k hk, isF]
  simp only [Option.bind_some]
  obtain ⟨r1, h1⟩ := may_some b (opA a)
  obtain ⟨r2, h2⟩ := may_some c (opB a)
  rw [may_eq, may_eq, h1, h2]
  simp only [Option.bind_some]
  by_cases h : 0 ≤ a ∧ a ≤ 37
  · have hi : opIn a = true := by unfold opIn; simp; omega
    rw [hi, if_pos rfl, if_pos (show a ≥ 0 from h.1), if_pos (show a ≤ 37 from h.2)]
    cases r1 <;> exact ⟨_, rfl, rfl⟩
  · rw [opIn_no a (by omega)]
    simp only [Bool.false_eq_true, if_false]
    by_cases h0 : a ≥ 0
    · rw [if_pos h0, if_neg (by omega)]
      exact ⟨_, rfl, rfl⟩
    · rw [if_neg h0]
      exact ⟨_, rfl, rfl⟩
theorem op_nodup : opWs.Nodup := by decide +kernel
theorem ops_len : opWs.length = 38 := rfl
/-- The last word that is s, from i on. -/
def lastW (s : ByteArray) : Nat → Nat → Int × Bool → Int × Bool
  | 0, _, r => r
  | d + 1, i, r => lastW s d (i + 1) (if opWs.getD i ⟨#[]⟩ = s then ((i : Int), true) else r)
theorem lastW_none (s : ByteArray) : ∀ d i r, (∀ j, i ≤ j → j < i + d → opWs.getD j ⟨#[]⟩ ≠ s) → lastW s d i r = r
  | 0, _, _, _ => rfl
  | d + 1, i, r, h => by
    simp only [lastW]
    rw [if_neg (h i (Nat.le_refl _) (by omega))]
    exact lastW_none s d (i + 1) r (fun j h1 h2 => h j (by omega) (by omega))
theorem lastW_first (s : ByteArray) : ∀ d i, i + d = 38 → lastW s d i (0, false) = opFd s d i
  | 0, _, _ => rfl
  | d + 1, i, h => by
    simp only [lastW, opFd]
    by_cases hs : opWs.getD i ⟨#[]⟩ = s
    · rw [if_pos hs, if_pos hs]
      refine lastW_none s d (i + 1) _ (fun j h1 h2 hj => ?_)
      have hi : i < opWs.length := by rw [ops_len]; omega
      have hj' : j < opWs.length := by rw [ops_len]; omega
      rw [List.getD_eq_getElem?_getD, List.getElem?_eq_getElem hi] at hs
      rw [List.getD_eq_getElem?_getD, List.getElem?_eq_getElem hj'] at hj
      have := (List.getElem_inj (h₀ := hj') (h₁ := hi) op_nodup).1 (hj.trans hs.symm)
      omega
    · rw [if_neg hs, if_neg hs]
      exact lastW_first s d (i + 1) (by omega)
theorem at_word (n : Nat) : rdOf ByteArray.empty opWs (n : Int) = opWs.getD n ⟨#[]⟩ := by
  unfold rdOf
  rw [Int.toNat_natCast]
  rfl
theorem toList_eq (a b : ByteArray) : (a.toList = b.toList) ↔ a = b := by
  constructor
  · intro h
    rw [ByteArray.toList_eq, ByteArray.toList_eq] at h
    exact ByteArray.ext (Array.toList_inj.1 h)
  · rintro rfl; rfl
theorem j1T (n : Int) (_s : ByteArray) (k : Nat) (hk : 3 ≤ k) (f : Int) (b : Bool) (x0 x1 x2 : Int) : ladderbacklaw12_OpTells.j1 (k + 1) n (opA n) (opB n) (opA n) (opB n) opWs f b f b (opIn n) x0 x1 x2 = some true := by
  obtain ⟨r, h1, h2⟩ := right_eq x0 x1 x2 k hk
  have hre : ∀ n : Int, op_Real.f n = some (decide (48 ≤ n) && decide (n ≤ 55)) := by
    intro n
    unfold op_Real.f
    by_cases h : n ≥ 48
    · rw [if_pos h, show decide (48 ≤ n) = true by simpa using h, Bool.true_and]
    · rw [if_neg h, show decide (48 ≤ n) = false by simpa using h, Bool.false_and]
  simp only [ladderbacklaw12_OpTells.j1, if_true, isF, hre, h1, h2, Option.bind_some, awakeT, beq_self_eq_true, show op_Word.f n = some (opWd n) from rfl]
  by_cases hi : opIn n = true
  · have hb : 0 ≤ n ∧ n < 38 := by unfold opIn at hi; simpa using hi
    obtain ⟨m, rfl⟩ : ∃ m : Nat, n = (m : Int) := ⟨n.toNat, by omega⟩
    have hw : opWd (m : Int) = rdOf ByteArray.empty opWs (m : Int) := by
      rw [at_word]; unfold opWd; rw [if_pos hi, Int.toNat_natCast]
    have h48 : ¬ (m : Int) ≥ 48 := by omega
    rw [hi, hw, ops_len, if_neg h48, show decide ((48 : Int) ≤ (m : Int)) = false by simpa using h48]
    simp only [if_true, Bool.false_and, beq_self_eq_true]
    rw [if_pos hb.1, if_pos (show (m : Int) < ((38 : Nat) : Int) from hb.2)]
  · simp only [Bool.not_eq_true] at hi
    have hw : opWd n = ⟨#[]⟩ := by unfold opWd; rw [hi]; rfl
    rw [hi, hw]
    have he : (⟨#[]⟩ : ByteArray).toList = [] := by rw [ByteArray.toList_eq]
    simp only [Bool.false_eq_true, if_false, he, if_true]
    by_cases h48 : n ≥ 48
    · rw [if_pos h48, show decide ((48 : Int) ≤ n) = true by simpa using h48]
      simp
    · rw [if_neg h48, show decide ((48 : Int) ≤ n) = false by simpa using h48]
      rfl
theorem loopT (n : Int) (s : ByteArray) (x0 x1 x2 : Int) : ∀ (d i k : Nat) (f : Int) (b : Bool), i + d = 38 → d + 6 ≤ k → lastW s d i (f, b) = opFind s → ladderbacklaw12_OpTells.l0 k n s (opA n) (opB n) (opA n) (opB n) opWs f b (i : Int) x0 x1 x2 = some true
  | 0, i, k, f, b, hd, hk, h => by
    obtain ⟨k, rfl⟩ : ∃ m, k = m + 2 := ⟨k - 2, by omega⟩
    simp only [lastW] at h
    simp only [ladderbacklaw12_OpTells.l0]
    rw [ops_len, if_neg (by omega), show op_Find.f s = some (opFind s) from rfl, ← h]
    simp only [Option.bind_some]
    have := j1T n s k (by omega) f b x0 x1 x2
    by_cases h0 : n ≥ 0
    · rw [if_pos h0]
      unfold opIn at this
      rw [show decide (0 ≤ n) = true by simpa using h0, Bool.true_and] at this
      exact this
    · rw [if_neg h0]
      unfold opIn at this
      rw [show decide (0 ≤ n) = false by simpa using h0, Bool.false_and] at this
      exact this
  | d + 1, i, k, f, b, hd, hk, h => by
    obtain ⟨k, rfl⟩ : ∃ m, k = m + 1 := ⟨k - 1, by omega⟩
    simp only [ladderbacklaw12_OpTells.l0]
    rw [ops_len, if_pos (by omega), if_pos (by omega), at_word]
    simp only [lastW] at h
    have hi : wrap64 ((i : Int) + 1) = ((i + 1 : Nat) : Int) := by unfold wrap64; omega
    rw [hi]
    by_cases hs : opWs.getD i ⟨#[]⟩ = s
    · rw [if_pos ((toList_eq _ _).2 hs)]
      rw [if_pos hs] at h
      exact loopT n s x0 x1 x2 d (i + 1) k _ _ (by omega) (by omega) h
    · rw [if_neg (fun e => hs ((toList_eq _ _).1 e))]
      rw [if_neg hs] at h
      exact loopT n s x0 x1 x2 d (i + 1) k _ _ (by omega) (by omega) h
theorem OpTells : ladderbacklaw12_OpTells.Pure := by
  intro n _ s _ x _
  refine ⟨50, ?_⟩
  unfold ladderbacklaw12_OpTells.f
  rw [awakeT, shapeF, shapeR n 50 (by omega), words_eq]
  simp only [Option.bind_some]
  split
  · rfl
  · exact loopT n s x.f0 x.f1 x.f2 38 0 50 0 false rfl (by omega) (lastW_first s 38 0 rfl)
end Go.Proofs.YtgjnmoocgkpkiaaDoor.Pure
