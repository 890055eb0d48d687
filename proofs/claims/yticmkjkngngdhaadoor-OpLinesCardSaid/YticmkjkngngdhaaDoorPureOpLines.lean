/- OpLines: a line and what a line reads as are the reference's; plain. No condition. -/
import Derived.Test.YticmkjkngngdhaaDoorPNumOpLines
namespace Go.Proofs.YticmkjkngngdhaaDoor.Pure
open Go.Proofs.YticmkjkngngdhaaDoor Go.Proofs.YticmkjkngngdhaaDoor.QOpLines Go.Proofs.YticmkjkngngdhaaDoor.POpLines Go.RowKit Go.Proofs.YticmkjkngngdhaaDoorW.PrintWords Go.Proofs.YticmkjkngngdhaaDoorW.PrintLast Go.Proofs.YticmkjkngngdhaaDoorW.PrintMore
set_option linter.unusedSimpArgs false
set_option maxRecDepth 10000
theorem index_hit32 : ∀ (a b : List UInt8), 32 ∉ a → Lib.index (a ++ 32 :: b) [32] = (a.length : Int)
  | [], b, _ => by simp [Lib.index]
  | x :: a, b, h => by
    have hx : x ≠ 32 := fun e => h (by simp [e])
    have ih := index_hit32 a b (fun e => h (by simp [e]))
    simp only [List.cons_append, Lib.index]
    rw [ih]
    rw [if_neg (by simp; exact fun e => hx e.symm), if_neg (by simp)]
    simp
theorem index_miss32 : ∀ (a : List UInt8), 32 ∉ a → Lib.index a [32] = -1
  | [], _ => by simp [Lib.index]
  | x :: a, h => by
    have hx : x ≠ 32 := fun e => h (by simp [e])
    have ih := index_miss32 a (fun e => h (by simp [e]))
    simp only [Lib.index]
    rw [ih]
    rw [if_neg (by simp; exact fun e => hx e.symm)]
    simp
def B32 : ByteArray := ⟨#[32]⟩
def spl (l : List UInt8) : List ByteArray := Lib.splitB B32 0 (Lib.countB ⟨l.toArray⟩ B32) ⟨l.toArray⟩
theorem spl_last (a : List UInt8) (h : 32 ∉ a) : spl a = [⟨a.toArray⟩] := by
  have hx : Lib.indexB ⟨a.toArray⟩ B32 = -1 := by
    show Lib.index a [32] = -1
    exact index_miss32 a h
  unfold spl
  exact Lib.splitB_miss B32 0 _ _ hx
theorem spl_more (a b : List UInt8) (h : 32 ∉ a) : spl (a ++ 32 :: b) = ⟨a.toArray⟩ :: spl b := by
  have hx : Lib.indexB ⟨(a ++ 32 :: b).toArray⟩ B32 = (a.length : Int) := by
    show Lib.index (a ++ 32 :: b) [32] = (a.length : Int)
    exact index_hit32 a b h
  have he : (⟨(a ++ 32 :: b).toArray⟩ : ByteArray).extract (a.length + B32.size) (⟨(a ++ 32 :: b).toArray⟩ : ByteArray).size = ⟨b.toArray⟩ := by
    rw [show B32.size = 1 from rfl, size_mk, extract_mk]
    congr 2
    rw [List.take_of_length_le (by simp)]
    simp
  have h0 : (⟨(a ++ 32 :: b).toArray⟩ : ByteArray).extract 0 (a.length + 0) = ⟨a.toArray⟩ := by
    rw [extract_mk]
    congr 2
    simp
  unfold spl
  rw [Lib.countB_hit _ B32 a.length (by decide) hx, he, Nat.add_comm 1, Lib.splitB_hit B32 0 _ _ a.length hx, he, h0]
theorem split_f (l : List UInt8) (h : l.length < 1000) : strings_Split.f ⟨l.toArray⟩ ⟨#[32]⟩ = some (spl l) := by
  unfold strings_Split.f
  rw [if_pos ⟨by rw [size_mk]; omega, by decide⟩]
  rfl
theorem printL_32 (v : Int) : (32 : UInt8) ∉ printL v := by
  have h := dgs_digits 20 v.natAbs 32
  intro hm
  unfold printL at hm
  split at hm
  · rcases List.mem_cons.1 hm with h1 | h1
    · cases h1
    · have := h h1
      unfold Dig at this
      have e : (32 : UInt8).toNat = 32 := rfl
      omega
  · have := h hm
    unfold Dig at this
    have e : (32 : UInt8).toNat = 32 := rfl
    omega
theorem printL_len (v : Int) (hw : (Lit.int .i64 v).wf = true) : (printL v).length ≤ 21 := by
  have hb := bounds_i64 hw
  have h20 : v.natAbs < 10 ^ (19 + 1) := by
    have : (10 : Nat) ^ (19 + 1) = 100000000000000000000 := by decide
    omega
  have hl : (dgs 20 v.natAbs []).length ≤ 20 := dgs_length 20 v.natAbs 19 h20
  unfold printL
  split
  · simp; omega
  · omega
theorem app_lists (a b : List UInt8) : (⟨a.toArray⟩ : ByteArray) ++ ⟨b.toArray⟩ = ⟨(a ++ b).toArray⟩ := by
  apply ByteArray.ext
  simp
def wdL (n : Int) : List UInt8 := (opWd n).data.toList
theorem wd_mk (n : Int) : opWd n = ⟨(wdL n).toArray⟩ := by unfold wdL; simp
theorem word_facts (m : Fin 38) : (32 : UInt8) ∉ wdL (m.1 : Int) ∧ (wdL (m.1 : Int)).length ≤ 6 ∧ wdL (m.1 : Int) ≠ [] ∧ opFind (opWd (m.1 : Int)) = ((m.1 : Int), true) ∧ (opA (m.1 : Int) = 0 → opB (m.1 : Int) = 0) := by
  have : ∀ m : Fin 38, (32 : UInt8) ∉ wdL (m.1 : Int) ∧ (wdL (m.1 : Int)).length ≤ 6 ∧ wdL (m.1 : Int) ≠ [] ∧ opFind (opWd (m.1 : Int)) = ((m.1 : Int), true) ∧ (opA (m.1 : Int) = 0 → opB (m.1 : Int) = 0) := by decide +kernel
  exact this m
theorem awakeT : ladderbacklaw12_awake.f = some true := by decide +kernel
theorem isF (n : Int) : op_Is.f n = some (opIn n) := by
  unfold op_Is.f opIn
  by_cases h : n ≥ 0
  · rw [if_pos h, show decide (0 ≤ n) = true by simpa using h, Bool.true_and]
  · rw [if_neg h, show decide (0 ≤ n) = false by simpa using h, Bool.false_and]
def mayS (n w : Int) : Bool := if w = 0 then n == 0 else decide (0 ≤ n) && decide (n ≤ 65535)
theorem mayF (n w : Int) : op_may.f n w = some (mayS n w) := by
  unfold op_may.f mayS
  by_cases hw : w = 0
  · rw [if_pos hw, if_pos hw]
  · rw [if_neg hw, if_neg hw]
    by_cases h : n ≥ 0
    · rw [if_pos h, show decide (0 ≤ n) = true by simpa using h, Bool.true_and]
    · rw [if_neg h, show decide (0 ≤ n) = false by simpa using h, Bool.false_and]
def rightS (o a b : Int) : Bool := opIn o && (mayS a (opA o) && mayS b (opB o))
theorem rightF (o a b : Int) : op_Right.f o a b = some (rightS o a b) := by
  unfold op_Right.f rightS
  rw [show op_Shape.f o = some (opA o, opB o) from rfl, isF]
  simp only [Option.bind_some]
  rw [mayF, mayF]
  cases opIn o <;> cases mayS a (opA o) <;> rfl
/-- The line of a right instruction. -/
def lineL (o a b : Int) : List UInt8 := wdL o ++ (if opA o = 0 then [] else 32 :: printL a) ++ (if opB o = 0 then [] else 32 :: printL b)
theorem printF (v : Int) (hv : (Lit.int .i64 v).wf = true) : num_Print.f v = some ⟨(printL v).toArray⟩ := by
  unfold num_Print.f; rw [if_pos hv]; rfl
theorem lineF (o a b : Int) (ha : (Lit.int .i64 a).wf = true) (hb : (Lit.int .i64 b).wf = true) (h : rightS o a b = true) : op_Line.f o a b = some ⟨(lineL o a b).toArray⟩ := by
  have ho : 0 ≤ o ∧ o < 38 := by
    unfold rightS opIn at h
    simp only [Bool.and_eq_true, decide_eq_true_eq] at h
    exact h.1
  obtain ⟨m, rfl⟩ : ∃ m : Fin 38, o = (m.1 : Int) := ⟨⟨o.toNat, by omega⟩, by simp; omega⟩
  obtain ⟨_, hl, _, _, hab⟩ := word_facts m
  have la := printL_len a ha
  have lb := printL_len b hb
  unfold op_Line.f
  rw [rightF, h]
  simp only [Option.bind_some, if_true]
  rw [show op_Word.f (m.1 : Int) = some (opWd (m.1 : Int)) from rfl, show op_Shape.f (m.1 : Int) = some (opA (m.1 : Int), opB (m.1 : Int)) from rfl, wd_mk]
  simp only [Option.bind_some]
  rw [printF a ha, printF b hb]
  simp only [Option.bind_some]
  unfold lineL
  by_cases hA : opA (m.1 : Int) = 0
  · rw [if_pos hA, if_pos (hab hA), if_pos hA, if_pos (hab hA)]
    simp
  · rw [if_neg hA, if_neg hA]
    rw [show (⟨#[32]⟩ : ByteArray) = ⟨[32].toArray⟩ from rfl, app_lists, app_lists, size_mk, size_mk, size_mk, if_pos (by omega), if_pos (by simp; omega), app_lists]
    by_cases hB : opB (m.1 : Int) = 0
    · rw [if_pos hB, if_pos hB]
      simp
    · rw [if_neg hB, if_neg hB]
      rw [size_mk, size_mk, size_mk, if_pos (by omega), if_pos (by simp; omega), app_lists]
      simp
theorem may0 {n w : Int} (h : mayS n w = true) (hw : w = 0) : n = 0 := by
  unfold mayS at h
  rw [if_pos hw] at h
  simpa using h
theorem parse_back (v : Int) (hv : (Lit.int .i64 v).wf = true) (k : Nat) (hk : 40 ≤ k) : num_Parse.f k ⟨(printL v).toArray⟩ = some (v, true) := by
  obtain ⟨r, hr, _, h⟩ := nparse_told (printS v) k hk
  rw [h v hv rfl] at hr
  exact hr
theorem toL (l : List UInt8) : (⟨l.toArray⟩ : ByteArray).toList = l := toList_mk l

theorem shapeF (o : Int) (k : Nat) (hk : 10 ≤ k) : ladderbackref12_Shape.f k o = some (opA o, opB o) := by
  by_cases h : 0 ≤ o ∧ o < 38
  · obtain ⟨m, rfl⟩ : ∃ m : Fin 38, o = (m.1 : Int) := ⟨⟨o.toNat, by omega⟩, by simp; omega⟩
    have : ∀ m : Fin 38, ladderbackref12_Shape.f 10 (m.1 : Int) = some (opA (m.1 : Int), opB (m.1 : Int)) := by decide +kernel
    exact at_rounds (k := 10) (ladderbackref12_Shape.mono _) hk (this m)
  · have hin : opIn o = false := by
      unfold opIn
      by_cases h0 : 0 ≤ o
      · have : ¬ o < 38 := by omega
        simp [this]
      · simp [h0]
    have hA : opA o = 0 := by unfold opA; rw [hin]; rfl
    have hB : opB o = 0 := by unfold opB; rw [hin]; rfl
    rw [hA, hB]
    obtain ⟨k, rfl⟩ : ∃ j, k = j + 1 := ⟨k - 1, by omega⟩
    unfold ladderbackref12_Shape.f
    by_cases h0 : o < 0
    · rw [if_pos h0]; simp [ladderbackref12_Shape.j0]
    · rw [if_neg h0, show decide (o > 37) = true by simp; omega]; simp [ladderbackref12_Shape.j0]
theorem rmayF (n w : Int) : ladderbackref12_may.f n w = some (mayS n w) := by
  unfold ladderbackref12_may.f mayS
  by_cases hn : n = 0
  · subst hn
    rw [if_pos rfl]
    by_cases hw : w = 0
    · rw [if_pos hw]; rfl
    · rw [if_neg hw]; rfl
  · rw [if_neg hn]
    by_cases hw : w = 0
    · rw [if_pos hw, if_pos hw]; simp [hn]
    · rw [if_neg hw, if_neg hw]
      by_cases h0 : n > 0
      · rw [if_pos h0, show decide (0 ≤ n) = true by simp; omega, Bool.true_and]
        congr 1
        apply decide_eq_decide.2
        omega
      · rw [if_neg h0, show decide (0 ≤ n) = false by simp; omega, Bool.false_and]
theorem rrightF (o a b : Int) (k : Nat) (hk : 10 ≤ k) : ladderbackref12_Right.f k o a b = some (rightS o a b) := by
  unfold ladderbackref12_Right.f rightS
  rw [shapeF o k hk]
  simp only [Option.bind_some]
  rw [rmayF, rmayF]
  unfold opIn
  by_cases h0 : o ≥ 0
  · by_cases h1 : o ≤ 37
    · rw [if_pos h0, if_pos h1, show decide (0 ≤ o) = true by simpa using h0, show decide (o < 38) = true by simp; omega]
      cases mayS a (opA o) <;> cases mayS b (opB o) <;> rfl
    · rw [if_pos h0, if_neg h1, show decide (o < 38) = false by simp; omega]
      simp
  · rw [if_neg h0, show decide (0 ≤ o) = false by simp; omega]
    simp
theorem words_at : ∀ m : Fin 38, ∃ l, ladderbackref12_Words.f = some l ∧ l.length = 38 ∧ rdOf ByteArray.empty l (m.1 : Int) = opWd (m.1 : Int) ∧ (opA (m.1 : Int) ≥ 0) ∧ (opB (m.1 : Int) ≥ 0) := by
  intro m
  refine ⟨_, rfl, rfl, ?_⟩
  revert m
  decide +kernel
theorem printS_mk (v : Int) : printS v = ⟨(printL v).toArray⟩ := rfl
theorem lineF0 (o a b : Int) (h : rightS o a b = false) : op_Line.f o a b = some ⟨#[]⟩ := by
  unfold op_Line.f
  rw [rightF, h]
  rfl
/-- The reference's line is the same. -/
theorem rlineF (o a b : Int) (ha : (Lit.int .i64 a).wf = true) (hb : (Lit.int .i64 b).wf = true) (k : Nat) (hk : 100 ≤ k) : ladderbackref12_Line.f k o a b = op_Line.f o a b := by
  by_cases h : rightS o a b = true
  · rw [lineF o a b ha hb h]
    have ho : 0 ≤ o ∧ o < 38 := by
      unfold rightS opIn at h
      simp only [Bool.and_eq_true, decide_eq_true_eq] at h
      exact h.1
    obtain ⟨m, rfl⟩ : ∃ m : Fin 38, o = (m.1 : Int) := ⟨⟨o.toNat, by omega⟩, by simp; omega⟩
    obtain ⟨l, hw, hl38, hwd, hA0, hB0⟩ := words_at m
    obtain ⟨_, hl, _, _, hab⟩ := word_facts m
    have la := printL_len a ha
    have lb := printL_len b hb
    unfold ladderbackref12_Line.f
    rw [rrightF _ _ _ k (by omega), h, shapeF _ k (by omega), hw]
    simp only [Option.bind_some, if_true]
    rw [hwd, wd_mk, if_pos (by omega), if_pos (by omega), rprint a ha k (by omega), rprint b hb k (by omega), printS_mk, printS_mk]
    simp only [Option.bind_some]
    unfold lineL
    by_cases hA : opA (m.1 : Int) = 0
    · rw [if_neg (by omega), if_neg (by have := hab hA; omega), if_pos hA, if_pos (hab hA)]
      simp
    · rw [if_pos (by omega), if_neg hA]
      rw [show (⟨#[32]⟩ : ByteArray) = ⟨[32].toArray⟩ from rfl, app_lists, app_lists, size_mk, size_mk, size_mk, if_pos (by omega), if_pos (by simp; omega)]
      by_cases hB : opB (m.1 : Int) = 0
      · rw [if_neg (by omega), if_pos hB]
        simp
      · rw [if_pos (by omega), if_neg hB]
        rw [app_lists, app_lists, size_mk, size_mk, size_mk, if_pos (by simp; omega), if_pos (by simp; omega)]
        simp
  · simp only [Bool.not_eq_true] at h
    rw [lineF0 _ _ _ h]
    unfold ladderbackref12_Line.f
    rw [rrightF _ _ _ k (by omega), h]
    rfl
theorem bt_32 (l : List UInt8) (i : Nat) (h : i < l.length) : (bt ⟨l.toArray⟩ (i : Int) = 32) ↔ l[i] = 32 := by
  rw [bt_mk l i h]
  constructor
  · intro e
    have : l[i].toNat = 32 := by omega
    exact UInt8.toNat_inj.1 (by rw [this]; rfl)
  · intro e
    rw [e]
    rfl
theorem split_l (l : List UInt8) (hl : l.length ≤ 1000) : ∀ (d i from_ k : Nat) (acc : List ByteArray), i + d = l.length → from_ ≤ i → d + 1 ≤ k → acc.length + d ≤ 2000 → (32 : UInt8) ∉ (l.drop from_).take (i - from_) →
    ladderbackref12_Split.l0 k ⟨l.toArray⟩ 32 acc (from_ : Int) (i : Int) = some (acc ++ spl (l.drop from_))
  | 0, i, fr, k, acc, hd, hf, hk, ha, hn => by
    obtain ⟨k, rfl⟩ : ∃ j, k = j + 1 := ⟨k - 1, by omega⟩
    simp only [ladderbackref12_Split.l0]
    have hi : i = l.length := by omega
    subst hi
    rw [List.take_of_length_le (by simp)] at hn
    rw [if_neg (by rw [size_mk]; omega), if_pos (by omega), if_pos (by rw [size_mk]; omega), if_pos (by omega), spl_last _ hn, size_mk, extract_mk, Int.toNat_natCast, List.take_of_length_le (Nat.le_refl _)]
  | d + 1, i, fr, k, acc, hd, hf, hk, ha, hn => by
    obtain ⟨k, rfl⟩ : ∃ j, k = j + 1 := ⟨k - 1, by omega⟩
    have hi : i < l.length := by omega
    have hw : wrap64 ((i : Int) + 1) = ((i + 1 : Nat) : Int) := by unfold wrap64; omega
    simp only [ladderbackref12_Split.l0]
    rw [if_pos (by rw [size_mk]; omega), if_pos (by omega), hw]
    by_cases hb : l[i] = 32
    · have hsp : l.drop fr = (l.drop fr).take (i - fr) ++ 32 :: l.drop (i + 1) := by
        have h1 := (List.take_append_drop (i - fr) (l.drop fr)).symm
        rw [List.drop_drop, show fr + (i - fr) = i by omega, List.drop_eq_getElem_cons hi, hb] at h1
        exact h1
      rw [if_pos ((bt_32 l i hi).2 hb), if_pos (by omega), if_pos (by omega), if_pos (by rw [size_mk]; omega), if_pos (by omega)]
      rw [split_l l hl d (i + 1) (i + 1) k _ (by omega) (Nat.le_refl _) (by omega) (by simp; omega) (by simp)]
      rw [show spl (l.drop fr) = ⟨((l.drop fr).take (i - fr)).toArray⟩ :: spl (l.drop (i + 1)) from by
        conv => lhs; rw [hsp]
        exact spl_more _ _ hn]
      rw [extract_mk, Int.toNat_natCast, Int.toNat_natCast, List.append_assoc, List.take_drop, show fr + (i - fr) = i by omega]
      rfl
    · rw [if_neg (fun e => hb ((bt_32 l i hi).1 e))]
      refine split_l l hl d (i + 1) fr k acc (by omega) (by omega) (by omega) (by omega) ?_
      rw [show i + 1 - fr = (i - fr) + 1 by omega, List.take_succ_eq_append_getElem (by simp; omega)]
      intro hm
      rcases List.mem_append.1 hm with h1 | h1
      · exact hn h1
      · simp only [List.mem_singleton, List.getElem_drop] at h1
        apply hb
        rw [h1]
        congr 1
        omega
theorem rsplit_f (l : List UInt8) (hl : l.length ≤ 1000) (k : Nat) (hk : 1010 ≤ k) : ladderbackref12_Split.f k ⟨l.toArray⟩ 32 = some (spl l) := by
  unfold ladderbackref12_Split.f
  have := split_l l hl l.length 0 0 k [] (by omega) (Nat.le_refl _) (by omega) (by simp; omega) (by simp)
  simpa using this
theorem lp_none (k : Nat) (s : ByteArray) (n1 n2 : Int) (ln : Nat → ByteArray) (hln : ∀ o : Nat, o < 38 → ladderbackref12_Line.f k (o : Int) n1 n2 = some (ln o)) :
    ∀ d o, o + d = 38 → (∀ m, o ≤ m → m < 38 → s.toList ≠ [] → (ln m).toList ≠ s.toList) → ladderbackref12_Read.lp k s n1 n2 d o = some (0, 0, 0, false)
  | 0, _, _, _ => rfl
  | d + 1, o, hd, h => by
    simp only [ladderbackref12_Read.lp]
    have ih := lp_none k s n1 n2 ln hln d (o + 1) (by omega) (fun m h1 h2 => h m (by omega) h2)
    by_cases hs : s.toList = []
    · rw [if_pos hs, ih]
    · rw [if_neg hs, hln o (by omega)]
      simp only [Option.bind_some]
      rw [if_neg (h o (Nat.le_refl _) (by omega) hs), ih]
theorem lp_hit (k : Nat) (s : ByteArray) (n1 n2 : Int) (ln : Nat → ByteArray) (hln : ∀ o : Nat, o < 38 → ladderbackref12_Line.f k (o : Int) n1 n2 = some (ln o)) (hs : s.toList ≠ []) (m : Nat) (hm : m < 38) (he : (ln m).toList = s.toList) (hj : ∀ j, j < m → (ln j).toList ≠ s.toList) :
    ∀ d o, o + d = 38 → o ≤ m → ladderbackref12_Read.lp k s n1 n2 d o = some ((m : Int), n1, n2, true)
  | 0, o, hd, h => by omega
  | d + 1, o, hd, h => by
    simp only [ladderbackref12_Read.lp]
    rw [if_neg hs, hln o (by omega)]
    simp only [Option.bind_some]
    by_cases e : o = m
    · subst e
      rw [if_pos he]
    · rw [if_neg (hj o (by omega)), lp_hit k s n1 n2 ln hln hs m hm he hj d (o + 1) (by omega) (by omega)]
theorem spl_size : ∀ (n : Nat) (l : List UInt8), l.length ≤ n → (∀ p ∈ spl l, p.size ≤ n) ∧ spl l ≠ []
  | n, l, hn => by
    by_cases h : (32 : UInt8) ∈ l
    · obtain ⟨a, b, rfl, ha⟩ := List.eq_append_cons_of_mem h
      simp only [List.length_append, List.length_cons] at hn
      obtain ⟨n, rfl⟩ : ∃ j, n = j + 1 := ⟨n - 1, by omega⟩
      have ih := spl_size n b (by omega)
      rw [spl_more a b ha]
      refine ⟨fun p hp => ?_, by simp⟩
      rcases List.mem_cons.1 hp with rfl | hp
      · rw [size_mk]; omega
      · have := ih.1 p hp; omega
    · rw [spl_last l h]
      refine ⟨fun p hp => ?_, by simp⟩
      rcases List.mem_cons.1 hp with rfl | hp
      · rw [size_mk]; omega
      · cases hp
theorem wf0 : (Lit.int .i64 0).wf = true := by decide
/-- The number of a part: both programs' reading of it. -/
theorem numF (L : List ByteArray) (hL : ∀ p ∈ L, p.size ≤ 1000) (i : Nat) : ∃ n, (Lit.int .i64 n).wf = true ∧ (∀ k, 3100 ≤ k → ladderbackref12_Read.nth k L i = some n) ∧ (i < L.length → ∀ k, 3100 ≤ k → ∃ ok, num_Parse.f k (rdOf ByteArray.empty L (i : Int)) = some (n, ok)) ∧ (¬ i < L.length → n = 0) := by
  by_cases h : i < L.length
  · have hm : rdOf ByteArray.empty L (i : Int) ∈ L := by
      unfold rdOf
      rw [Int.toNat_natCast, List.getD_eq_getElem?_getD, List.getElem?_eq_getElem h]
      exact List.getElem_mem h
    obtain ⟨r, h1, h2⟩ := parse_same _ (hL _ hm) 3100 (Nat.le_refl _)
    obtain ⟨q, g1, g2, _⟩ := nparse_told (rdOf ByteArray.empty L (i : Int)) 3100 (by omega)
    obtain rfl := Option.some.inj (h1.symm.trans g1)
    refine ⟨r.1, ?_, fun k hk => ?_, fun _ k hk => ⟨r.2, at_rounds (k := 3100) (num_Parse.mono _) hk h1⟩, fun e => absurd h e⟩
    · rcases g2 with rfl | ⟨n, hw, rfl, _⟩
      · exact wf0
      · exact hw
    · unfold ladderbackref12_Read.nth
      rw [if_pos h, at_rounds (k := 3100) (ladderbackref04_Parse.mono _) hk h2]
      rfl
  · refine ⟨0, wf0, fun k hk => ?_, fun e => absurd e h, fun _ => rfl⟩
    unfold ladderbackref12_Read.nth
    rw [if_neg h]
def lnS (n1 n2 o : Int) : List UInt8 := if rightS o n1 n2 = true then lineL o n1 n2 else []
theorem lineS (o a b : Int) (ha : (Lit.int .i64 a).wf = true) (hb : (Lit.int .i64 b).wf = true) : op_Line.f o a b = some ⟨(lnS a b o).toArray⟩ := by
  unfold lnS
  by_cases h : rightS o a b = true
  · rw [if_pos h, lineF o a b ha hb h]
  · rw [if_neg h, lineF0 o a b (by simpa using h)]
theorem opFd_range (s : ByteArray) : ∀ k n o, opFd s k n = (o, true) → n + k = 38 → 0 ≤ o ∧ o < 38
  | 0, n, o, h, _ => by simp [opFd] at h
  | k + 1, n, o, h, hk => by
    simp only [opFd] at h
    split at h
    · simp only [Prod.mk.injEq, and_true] at h
      omega
    · exact opFd_range s k (n + 1) o h (by omega)
/-- What a line is cut into. -/
theorem spl_line (o a b : Int) (h : rightS o a b = true) : rdOf ByteArray.empty (spl (lineL o a b)) 0 = opWd o ∧ (spl (lineL o a b)).length ≤ 3 ∧ opFind (opWd o) = (o, true) ∧ 0 ≤ o ∧ o < 38 := by
  have ho : 0 ≤ o ∧ o < 38 := by
    unfold rightS opIn at h
    simp only [Bool.and_eq_true, decide_eq_true_eq] at h
    exact h.1
  obtain ⟨m, rfl⟩ : ∃ m : Fin 38, o = (m.1 : Int) := ⟨⟨o.toNat, by omega⟩, by simp; omega⟩
  obtain ⟨h32, _, _, hf, hab⟩ := word_facts m
  have hw : ∀ r, rdOf ByteArray.empty ((⟨(wdL (m.1 : Int)).toArray⟩ : ByteArray) :: r) 0 = opWd (m.1 : Int) := fun r => (wd_mk _).symm
  refine ⟨?_, ?_, hf, ho⟩ <;> unfold lineL <;> by_cases hA : opA (m.1 : Int) = 0
  · rw [if_pos hA, if_pos (hab hA), List.append_nil, List.append_nil, spl_last _ h32, hw]
  · by_cases hB : opB (m.1 : Int) = 0
    · rw [if_neg hA, if_pos hB, List.append_nil, spl_more _ _ h32, hw]
    · rw [if_neg hA, if_neg hB, List.append_assoc, List.cons_append, spl_more _ _ h32, hw]
  · rw [if_pos hA, if_pos (hab hA), List.append_nil, List.append_nil, spl_last _ h32]
    simp
  · by_cases hB : opB (m.1 : Int) = 0
    · rw [if_neg hA, if_pos hB, List.append_nil, spl_more _ _ h32, spl_last _ (printL_32 a)]
      simp
    · rw [if_neg hA, if_neg hB, List.append_assoc, List.cons_append, spl_more _ _ h32, spl_more _ _ (printL_32 a), spl_last _ (printL_32 b)]
      simp
/-- op.Read, over the parts. -/
theorem opReadF (l : List UInt8) (hl : l.length ≤ 900) (n1 n2 : Int) (hw1 : (Lit.int .i64 n1).wf = true) (hw2 : (Lit.int .i64 n2).wf = true) (h1 : 1 < (spl l).length → ∀ k, 3100 ≤ k → ∃ ok, num_Parse.f k (rdOf ByteArray.empty (spl l) 1) = some (n1, ok)) (h1' : ¬ 1 < (spl l).length → n1 = 0)
    (h2 : 2 < (spl l).length → ∀ k, 3100 ≤ k → ∃ ok, num_Parse.f k (rdOf ByteArray.empty (spl l) 2) = some (n2, ok)) (h2' : ¬ 2 < (spl l).length → n2 = 0) :
    op_Read.f 4000 ⟨l.toArray⟩ = if (opFind (rdOf ByteArray.empty (spl l) 0)).2 = true ∧ (spl l).length ≤ 3 ∧ lnS n1 n2 (opFind (rdOf ByteArray.empty (spl l) 0)).1 = l then some ((opFind (rdOf ByteArray.empty (spl l) 0)).1, n1, n2, true) else some (0, 0, 0, false) := by
  have hne := (spl_size 900 l hl).2
  have h0 : 0 < (spl l).length := List.length_pos_iff.2 hne
  unfold op_Read.f
  rw [split_f l (by omega)]
  simp only [Option.bind_some]
  rw [if_pos (by omega), show op_Find.f (rdOf ByteArray.empty (spl l) 0) = some (opFind (rdOf ByteArray.empty (spl l) 0)) from rfl]
  simp only [Option.bind_some]
  generalize hF : opFind (rdOf ByteArray.empty (spl l) 0) = F
  obtain ⟨o, is⟩ := F
  cases is
  · simp [op_Read.j0]
  · simp only [if_true]
    by_cases h3 : (spl l).length ≤ 3
    · rw [show decide (((spl l).length : Int) > 3) = false by simp; omega]
      by_cases g1 : 1 < (spl l).length
      · obtain ⟨ok1, p1⟩ := h1 g1 3999 (by omega)
        by_cases g2 : 2 < (spl l).length
        · obtain ⟨ok2, p2⟩ := h2 g2 3998 (by omega)
          simp only [op_Read.j0, op_Read.j1, Bool.false_eq_true, if_false]
          rw [if_pos (by omega)]
          simp only [p1, p2, lineS o n1 n2 hw1 hw2, Option.bind_some, toL]
          simp [h3, show (1 : Int) < ((spl l).length : Int) by omega, show (2 : Int) < ((spl l).length : Int) by omega, p1, p2, lineS o n1 n2 hw1 hw2, toL]
        · obtain rfl := h2' g2
          simp only [op_Read.j0, op_Read.j1, Bool.false_eq_true, if_false]
          rw [if_pos (by omega)]
          simp only [p1, lineS o n1 0 hw1 hw2, Option.bind_some, toL]
          simp [h3, show ¬ (2 : Int) < ((spl l).length : Int) by omega, show ¬ 2 < (spl l).length by omega, show (1 : Int) < ((spl l).length : Int) by omega, p1, lineS o n1 0 hw1 hw2, toL]
      · obtain rfl := h1' g1
        obtain rfl := h2' (by omega)
        simp only [op_Read.j0, op_Read.j1, Bool.false_eq_true, if_false]
        rw [if_neg (by omega)]
        simp [h3, show ¬ (2 : Int) < ((spl l).length : Int) by omega, show ¬ 2 < (spl l).length by omega, lineS o 0 0 hw1 hw2, toL]
    · rw [show decide (((spl l).length : Int) > 3) = true by simp; omega]
      simp [op_Read.j0, h3]
theorem refReadF (l : List UInt8) (hl : l.length ≤ 900) (n1 n2 : Int) (hw1 : (Lit.int .i64 n1).wf = true) (hw2 : (Lit.int .i64 n2).wf = true) (ha1 : ladderbackref12_Read.nth 4000 (spl l) 1 = some n1) (ha2 : ladderbackref12_Read.nth 4000 (spl l) 2 = some n2) :
    ladderbackref12_Read.f 4000 ⟨l.toArray⟩ = if (opFind (rdOf ByteArray.empty (spl l) 0)).2 = true ∧ (spl l).length ≤ 3 ∧ lnS n1 n2 (opFind (rdOf ByteArray.empty (spl l) 0)).1 = l then some ((opFind (rdOf ByteArray.empty (spl l) 0)).1, n1, n2, true) else some (0, 0, 0, false) := by
  unfold ladderbackref12_Read.f
  rw [rsplit_f l (by omega) 4000 (by omega)]
  simp only [Option.bind_some]
  rw [ha1]
  simp only [Option.bind_some]
  rw [ha2]
  simp only [Option.bind_some]
  have hln : ∀ o : Nat, o < 38 → ladderbackref12_Line.f 4000 (o : Int) n1 n2 = some ((fun o : Nat => (⟨(lnS n1 n2 (o : Int)).toArray⟩ : ByteArray)) o) := fun o _ => by
    rw [rlineF _ _ _ hw1 hw2 4000 (by omega), lineS _ _ _ hw1 hw2]
  have uniq : ∀ m : Nat, m < 38 → l ≠ [] → lnS n1 n2 (m : Int) = l → opFind (rdOf ByteArray.empty (spl l) 0) = ((m : Int), true) ∧ (spl l).length ≤ 3 := by
    intro m hm hne he
    unfold lnS at he
    by_cases h : rightS (m : Int) n1 n2 = true
    · rw [if_pos h] at he
      obtain ⟨a, b, c, _⟩ := spl_line (m : Int) n1 n2 h
      rw [he] at a b
      exact ⟨by rw [a]; exact c, b⟩
    · rw [if_neg h] at he
      exact absurd he.symm hne
  by_cases H : (opFind (rdOf ByteArray.empty (spl l) 0)).2 = true ∧ (spl l).length ≤ 3 ∧ lnS n1 n2 (opFind (rdOf ByteArray.empty (spl l) 0)).1 = l
  · rw [if_pos H]
    obtain ⟨o, ho⟩ : ∃ o, opFind (rdOf ByteArray.empty (spl l) 0) = (o, true) := ⟨_, Prod.ext rfl H.1⟩
    rw [ho] at H ⊢
    obtain ⟨hr0, hr1⟩ := opFd_range _ 38 0 o ho rfl
    obtain ⟨m, rfl⟩ : ∃ m : Nat, o = (m : Int) := ⟨o.toNat, by omega⟩
    have hne : l ≠ [] := by
      rintro rfl
      rw [spl_last [] (by simp), show opFind (rdOf ByteArray.empty [(⟨([] : List UInt8).toArray⟩ : ByteArray)] 0) = (0, false) by decide +kernel] at ho
      cases ho
    refine lp_hit 4000 _ n1 n2 _ hln (by rw [toL]; exact hne) m (by omega) ?_ (fun j hj he => ?_) 38 0 rfl (Nat.zero_le _)
    · simp only [toL]
      exact H.2.2
    · simp only [toL] at he
      have := (uniq j (by omega) hne he).1
      rw [ho] at this
      simp only [Prod.mk.injEq, and_true] at this
      omega
  · rw [if_neg H]
    refine lp_none 4000 _ n1 n2 _ hln 38 0 rfl (fun m _ hm hne he => H ?_)
    rw [toL] at hne
    simp only [toL] at he
    obtain ⟨u1, u2⟩ := uniq m hm hne he
    rw [u1]
    exact ⟨rfl, u2, he⟩
theorem OpLines : ladderbacklaw12_OpLines.Pure := by
  intro x hx s _
  obtain ⟨h0, h1, h2⟩ := hx
  refine ⟨4000, ?_⟩
  unfold ladderbacklaw12_OpLines.f
  rw [awakeT]
  by_cases hs : (s.size : Int) > 100
  · rw [if_pos hs]; rfl
  · rw [if_neg hs]
    obtain ⟨l, rfl⟩ : ∃ l : List UInt8, s = ⟨l.toArray⟩ := ⟨s.data.toList, by simp⟩
    have hl : l.length ≤ 100 := by rw [size_mk] at hs; omega
    have hsz : ∀ p ∈ spl l, p.size ≤ 1000 := fun p hp => by have := (spl_size 100 l hl).1 p hp; omega
    obtain ⟨n1, hw1, ha1, hb1, hc1⟩ := numF (spl l) hsz 1
    obtain ⟨n2, hw2, ha2, hb2, hc2⟩ := numF (spl l) hsz 2
    rw [opReadF l (by omega) n1 n2 hw1 hw2 hb1 hc1 hb2 hc2, refReadF l (by omega) n1 n2 hw1 hw2 (ha1 4000 (by omega)) (ha2 4000 (by omega)), rlineF _ _ _ h1 h2 4000 (by omega), lineS _ _ _ h1 h2]
    obtain ⟨q, hq⟩ : ∃ q, (if (opFind (rdOf ByteArray.empty (spl l) 0)).2 = true ∧ (spl l).length ≤ 3 ∧ lnS n1 n2 (opFind (rdOf ByteArray.empty (spl l) 0)).1 = l then some ((opFind (rdOf ByteArray.empty (spl l) 0)).1, n1, n2, true) else some ((0 : Int), (0 : Int), (0 : Int), false)) = some q := by
      split
      · exact ⟨_, rfl⟩
      · exact ⟨_, rfl⟩
    rw [hq]
    simp only [Option.bind_some]
    rw [if_pos trivial, if_pos (by simp), if_pos (by simp)]
end Go.Proofs.YticmkjkngngdhaaDoor.Pure
