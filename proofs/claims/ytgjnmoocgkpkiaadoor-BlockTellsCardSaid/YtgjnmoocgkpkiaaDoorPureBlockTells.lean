/- BlockTells: the names and the fields of any kind, and what any text is the name of, are the reference's; plain. No condition. -/
import Derived.Test.YtgjnmoocgkpkiaaDoorQBlockTellsx
namespace Go.Proofs.YtgjnmoocgkpkiaaDoor.Pure
open Go.Proofs.YtgjnmoocgkpkiaaDoor Go.Proofs.YtgjnmoocgkpkiaaDoor.QBlockTells Go.RowKit Go.Proofs.YtgjnmoocgkpkiaaDoorW.PrintWords Go.Proofs.YtgjnmoocgkpkiaaDoorW.PrintLast Go.Proofs.YtgjnmoocgkpkiaaDoorW.PrintMore
set_option linter.unusedSimpArgs false
set_option maxRecDepth 10000
def FL (k : Int) : List ByteArray := (blkFnL k).take (blkCnt k).toNat
def FT (k : Int) : List Int := (blkTypes k).take (blkCnt k).toNat
theorem kinds8 (k : Int) (h : 1 ≤ k ∧ k ≤ 8) : k = 1 ∨ k = 2 ∨ k = 3 ∨ k = 4 ∨ k = 5 ∨ k = 6 ∨ k = 7 ∨ k = 8 := by omega
theorem blk_out (k : Int) (h : ¬ (1 ≤ k ∧ k ≤ 8)) : blkName k = blkName 0 ∧ blkIn k = 0 ∧ blkFnL k = blkFnL 0 ∧ blkTypes k = blkTypes 0 := by
  have e : ∀ j : Int, 1 ≤ j → j ≤ 8 → ¬ k = j := by intro j h1 h2; omega
  have e1 := e 1 (by decide) (by decide); have e2 := e 2 (by decide) (by decide); have e3 := e 3 (by decide) (by decide); have e4 := e 4 (by decide) (by decide); have e5 := e 5 (by decide) (by decide); have e6 := e 6 (by decide) (by decide); have e7 := e 7 (by decide) (by decide); have e8 := e 8 (by decide) (by decide)
  simp only [blkName, blkIn, blkFnL, blkTypes, blkFn0, blkFt0, blkFn1, blkFt1, blkFn2, blkFt2, blkFn3, blkFt3, blkFn4, blkFt4, blkFn5, blkFt5, blkFn6, blkFt6, blkFn7, blkFt7, e1, e2, e3, e4, e5, e6, e7, e8, if_false]
  refine ⟨?_, ?_, ?_, ?_⟩ <;> first | trivial | rfl
/-- What is known of each kind's row. -/
theorem blk_facts (k : Int) : ((FL k).length : Int) = blkCnt k ∧ (FT k).length = (FL k).length ∧ (FL k).Nodup ∧ (FL k).length ≤ 8 ∧ ((decide (1 ≤ k) && decide (k ≤ 8)) = decide (((FL k).length : Int) > 0)) ∧ ((decide (1 ≤ k) && decide (k ≤ 8)) = (blkName k).toList.isEmpty.not) ∧ ∀ j, 1 ≤ j → ladderbackref11_Fields.f j k = some (FL k, FT k, blkIn k) := by
  by_cases h : 1 ≤ k ∧ k ≤ 8
  · rcases kinds8 k h with rfl | rfl | rfl | rfl | rfl | rfl | rfl | rfl
    all_goals exact ⟨by decide +kernel, by decide +kernel, by decide +kernel, by decide +kernel, by decide +kernel, by decide +kernel, fun j hj => at_rounds (k := 1) (ladderbackref11_Fields.mono _) hj (by decide +kernel)⟩
  · obtain ⟨h1, h2, h3, h4⟩ := blk_out k h
    have hF : FL k = [] := by unfold FL blkCnt; rw [h3, h4]; rfl
    have hT : FT k = [] := by unfold FT blkCnt; rw [h4]; rfl
    have hc : blkCnt k = 0 := by unfold blkCnt; rw [h4]; rfl
    have hr : (decide (1 ≤ k) && decide (k ≤ 8)) = false := by
      by_cases h0 : 1 ≤ k
      · have : ¬ k ≤ 8 := by omega
        simp [this]
      · simp [h0]
    refine ⟨by rw [hF, hc]; rfl, by rw [hF, hT]; rfl, by rw [hF]; exact List.nodup_nil, by rw [hF]; exact Nat.zero_le _, by rw [hr, hF]; rfl, ?_, fun j hj => ?_⟩
    · rw [hr, h1]; decide +kernel
    · rw [hF, hT, h2]
      refine at_rounds (k := 1) (ladderbackref11_Fields.mono _) hj ?_
      unfold ladderbackref11_Fields.f
      have e : ∀ j : Int, 1 ≤ j → j ≤ 8 → ¬ k = j := by intro j h1 h2; omega
      by_cases h0 : k ≥ 1
      · rw [if_pos h0, show decide (k ≤ 3) = false by simp; omega]
        simp [ladderbackref11_Fields.j0, e 4, e 5, e 6, e 7, e 8]
      · rw [if_neg h0]
        simp [ladderbackref11_Fields.j0, e 4, e 5, e 6, e 7, e 8]
theorem toList_eq (a b : ByteArray) : (a.toList = b.toList) ↔ a = b := by
  constructor
  · intro h
    rw [ByteArray.toList_eq, ByteArray.toList_eq] at h
    exact ByteArray.ext (Array.toList_inj.1 h)
  · rintro rfl; rfl
theorem rdOf_at (l : List ByteArray) (i : Nat) : rdOf ByteArray.empty l (i : Int) = l.getD i ⟨#[]⟩ := by
  unfold rdOf
  rw [Int.toNat_natCast]
  rfl
theorem field_at (k : Int) (i : Nat) (h : i < (FL k).length) : blkField k (i : Int) = ((FL k).getD i ⟨#[]⟩, (FT k).getD i 0) := by
  obtain ⟨h1, h2, _⟩ := blk_facts k
  unfold blkField
  rw [if_pos (by omega), Int.toNat_natCast]
  have hi : i < (blkCnt k).toNat := by omega
  unfold FL FT
  rw [List.getD_eq_getElem?_getD, List.getD_eq_getElem?_getD, List.getD_eq_getElem?_getD, List.getD_eq_getElem?_getD, List.getElem?_take, List.getElem?_take, if_pos hi, if_pos hi]
theorem field_out (k i : Int) (h : ¬ (0 ≤ i ∧ i < ((FL k).length : Int))) : blkField k i = (⟨#[]⟩, 0) := by
  obtain ⟨h1, _⟩ := blk_facts k
  unfold blkField
  rw [if_neg (by rw [← h1]; exact h)]
/-- Where a text first stands in a list, from i on. -/
def plc (s : ByteArray) (l : List ByteArray) : Nat → Nat → Int
  | 0, _ => -1
  | d + 1, i => if l.getD i ⟨#[]⟩ = s then (i : Int) else plc s l d (i + 1)
theorem wnext (i : Nat) (h : i ≤ 100) : wrap64 ((i : Int) + 1) = ((i + 1 : Nat) : Int) := by unfold wrap64; omega
theorem place_l (k : Int) (s : ByteArray) : ∀ (d i j : Nat), i + d = (FL k).length → d + 1 ≤ j → block_Place.l0 j k s ((FL k).length : Int) (i : Int) = some (plc s (FL k) d i)
  | 0, i, j, hd, hj => by
    obtain ⟨j, rfl⟩ : ∃ m, j = m + 1 := ⟨j - 1, by omega⟩
    simp only [block_Place.l0]
    rw [if_neg (by omega)]
    rfl
  | d + 1, i, j, hd, hj => by
    obtain ⟨j, rfl⟩ : ∃ m, j = m + 1 := ⟨j - 1, by omega⟩
    have h8 := (blk_facts k).2.2.2.1
    simp only [block_Place.l0, plc]
    rw [if_pos (by omega), show block_Field.f k (i : Int) = some (blkField k (i : Int)) from rfl, field_at k i (by omega)]
    simp only [Option.bind_some]
    by_cases hs : (FL k).getD i ⟨#[]⟩ = s
    · rw [if_pos ((toList_eq _ _).2 hs), if_pos hs]
    · rw [if_neg (fun e => hs ((toList_eq _ _).1 e)), if_neg hs, wnext i (by omega)]
      exact place_l k s d (i + 1) j (by omega) (by omega)
theorem place_f (k : Int) (s : ByteArray) (j : Nat) (hj : 10 ≤ j) : block_Place.f j k s = some (plc s (FL k) (FL k).length 0) := by
  obtain ⟨h1, _, _, h8, _⟩ := blk_facts k
  unfold block_Place.f
  rw [show block_Fields.f k = some (blkCnt k) from rfl, ← h1]
  simp only [Option.bind_some]
  exact place_l k s (FL k).length 0 j (by omega) (by omega)
theorem rplace_l (s : ByteArray) (l : List ByteArray) (hl : l.length ≤ 8) : ∀ (d i j : Nat), i + d = l.length → d + 1 ≤ j → ladderbackref11_Place.l0 j s l (i : Int) = some (plc s l d i)
  | 0, i, j, hd, hj => by
    obtain ⟨j, rfl⟩ : ∃ m, j = m + 1 := ⟨j - 1, by omega⟩
    simp only [ladderbackref11_Place.l0]
    rw [if_neg (by omega)]
    rfl
  | d + 1, i, j, hd, hj => by
    obtain ⟨j, rfl⟩ : ∃ m, j = m + 1 := ⟨j - 1, by omega⟩
    simp only [ladderbackref11_Place.l0, plc]
    rw [if_pos (by omega), if_pos (by omega), rdOf_at]
    by_cases hs : l.getD i ⟨#[]⟩ = s
    · rw [if_pos ((toList_eq _ _).2 hs), if_pos hs]
    · rw [if_neg (fun e => hs ((toList_eq _ _).1 e)), if_neg hs, wnext i (by omega)]
      exact rplace_l s l hl d (i + 1) j (by omega) (by omega)
theorem rplace_f (k : Int) (s : ByteArray) (j : Nat) (hj : 10 ≤ j) : ladderbackref11_Place.f j k s = some (plc s (FL k) (FL k).length 0) := by
  obtain ⟨_, _, _, h8, _, _, hf⟩ := blk_facts k
  unfold ladderbackref11_Place.f
  rw [hf j (by omega)]
  simp only [Option.bind_some]
  exact rplace_l s (FL k) h8 (FL k).length 0 j (by omega) (by omega)
theorem getD_at (l : List ByteArray) (i : Nat) (h : i < l.length) : l.getD i ⟨#[]⟩ = l[i] := by simp [List.getD_eq_getElem?_getD, List.getElem?_eq_getElem h]
/-- A name of a list without doubles stands where it stands. -/
theorem plc_own (l : List ByteArray) (hn : l.Nodup) (m : Nat) (hm : m < l.length) : ∀ (d i : Nat), i + d = l.length → i ≤ m → plc (l.getD m ⟨#[]⟩) l d i = (m : Int)
  | 0, i, hd, hi => by omega
  | d + 1, i, hd, hi => by
    simp only [plc]
    by_cases e : i = m
    · subst e; rw [if_pos rfl]
    · rw [if_neg (fun h => e (by
        rw [getD_at l i (by omega), getD_at l m hm] at h
        exact (List.getElem_inj hn).1 h))]
      exact plc_own l hn m hm d (i + 1) (by omega) (by omega)
theorem names_eq : ladderbackref11_Names.f = some blkNms := rfl
theorem nms_len : blkNms.length = 9 := rfl
theorem nms_nodup : blkNms.Nodup := by decide +kernel
/-- The last name that is s, from i on. -/
def lastN (s : ByteArray) : Nat → Nat → Int → Int
  | 0, _, r => r
  | d + 1, i, r => lastN s d (i + 1) (if blkNms.getD i ⟨#[]⟩ = s then (i : Int) else r)
theorem lastN_none (s : ByteArray) : ∀ d i r, (∀ j, i ≤ j → j < i + d → blkNms.getD j ⟨#[]⟩ ≠ s) → lastN s d i r = r
  | 0, _, _, _ => rfl
  | d + 1, i, r, h => by
    simp only [lastN]
    rw [if_neg (h i (Nat.le_refl _) (by omega))]
    exact lastN_none s d (i + 1) r (fun j h1 h2 => h j (by omega) (by omega))
theorem lastN_first (s : ByteArray) : ∀ d i, i + d = 9 → 1 ≤ i → lastN s d i 0 = blkFd s d i
  | 0, _, _, _ => rfl
  | d + 1, i, h, h1 => by
    simp only [lastN, blkFd]
    by_cases hs : blkNms.getD i ⟨#[]⟩ = s
    · rw [if_pos hs, if_pos ⟨by omega, hs⟩]
      refine lastN_none s d (i + 1) _ (fun j h1 h2 hj => ?_)
      rw [getD_at _ i (by rw [nms_len]; omega)] at hs
      rw [getD_at _ j (by rw [nms_len]; omega)] at hj
      have := (List.getElem_inj nms_nodup).1 (hj.trans hs.symm)
      omega
    · rw [if_neg hs, if_neg (fun h => hs h.2)]
      exact lastN_first s d (i + 1) (by omega) (by omega)
theorem awakeT : ladderbacklaw11_awake.f = some true := by decide +kernel
theorem rightF (k : Int) : block_Right.f k = some (decide (1 ≤ k) && decide (k ≤ 8)) := by
  unfold block_Right.f
  by_cases h : k ≥ 1
  · rw [if_pos h, show decide (1 ≤ k) = true by simpa using h, Bool.true_and]
  · rw [if_neg h, show decide (1 ≤ k) = false by simpa using h, Bool.false_and]
theorem name_at (k : Int) (h : 1 ≤ k ∧ k ≤ 8) : blkName k = rdOf ByteArray.empty blkNms k := by
  rcases kinds8 k h with rfl | rfl | rfl | rfl | rfl | rfl | rfl | rfl <;> rfl
theorem bne_nil (l : List UInt8) : (l != ([] : List UInt8)) = l.isEmpty.not := by cases l <;> rfl
theorem endT (k : Int) (s : ByteArray) (j : Nat) : ladderbacklaw11_BlockTells.l0 (j + 1) k s (blkFind s) blkNms (9 : Int) = some true := by
  obtain ⟨_, _, _, _, _, hn, _⟩ := blk_facts k
  simp only [ladderbacklaw11_BlockTells.l0]
  rw [nms_len, if_neg (by omega), show block_Find.f s = some (blkFind s) from rfl]
  simp only [Option.bind_some, if_true]
  rw [show block_Name.f k = some (blkName k) from rfl, rightF, awakeT]
  simp only [Option.bind_some, bne_nil]
  rw [← hn, beq_self_eq_true, if_pos rfl]
  by_cases h : 1 ≤ k ∧ k ≤ 8
  · rw [show (decide (1 ≤ k) && decide (k ≤ 8)) = true by simp [h.1, h.2]]
    simp only [if_true]
    rw [if_pos (by omega), if_pos (by omega), name_at k h, if_pos rfl]
  · have hr : (decide (1 ≤ k) && decide (k ≤ 8)) = false := by
      by_cases h0 : 1 ≤ k
      · have : ¬ k ≤ 8 := by omega
        simp [this]
      · simp [h0]
    rw [hr]
    simp
theorem loopT (k : Int) (s : ByteArray) : ∀ (d i j : Nat) (f : Int), i + d = 9 → d + 1 ≤ j → lastN s d i f = blkFind s → ladderbacklaw11_BlockTells.l0 j k s f blkNms (i : Int) = some true
  | 0, i, j, f, hd, hj, h => by
    obtain ⟨j, rfl⟩ : ∃ m, j = m + 1 := ⟨j - 1, by omega⟩
    obtain rfl : i = 9 := by omega
    simp only [lastN] at h
    rw [h]
    exact endT k s j
  | d + 1, i, j, f, hd, hj, h => by
    obtain ⟨j, rfl⟩ : ∃ m, j = m + 1 := ⟨j - 1, by omega⟩
    simp only [ladderbacklaw11_BlockTells.l0]
    rw [nms_len, if_pos (by omega), if_pos (by omega), rdOf_at, wnext i (by omega)]
    simp only [lastN] at h
    by_cases hs : blkNms.getD i ⟨#[]⟩ = s
    · rw [if_pos ((toList_eq _ _).2 hs)]
      rw [if_pos hs] at h
      exact loopT k s d (i + 1) j _ (by omega) (by omega) h
    · rw [if_neg (fun e => hs ((toList_eq _ _).1 e))]
      rw [if_neg hs] at h
      exact loopT k s d (i + 1) j _ (by omega) (by omega) h
theorem j2T (k : Int) (s : ByteArray) (j : Nat) (hj : 20 ≤ j) : ladderbacklaw11_BlockTells.j2 j k s = some true := by
  obtain ⟨j, rfl⟩ : ∃ m, j = m + 1 := ⟨j - 1, by omega⟩
  simp only [ladderbacklaw11_BlockTells.j2]
  rw [names_eq]
  simp only [Option.bind_some]
  refine loopT k s 8 1 j 0 (by omega) (by omega) ?_
  rw [lastN_first s 8 1 rfl (by omega)]
  show blkFd s 8 1 = blkFd s 9 0
  simp [blkFd]
theorem BlockTells : ladderbacklaw11_BlockTells.Pure := by
  intro k _ i _ s _
  refine ⟨50, ?_⟩
  obtain ⟨h1, h2, hnd, h8, hr, hn, hf⟩ := blk_facts k
  unfold ladderbacklaw11_BlockTells.f
  rw [awakeT]
  by_cases hs : (s.size : Int) > 100
  · rw [if_pos hs]; rfl
  · rw [if_neg hs, hf 50 (by omega), show block_Fields.f k = some (blkCnt k) from rfl, show block_Inputs.f k = some (blkIn k) from rfl, rightF, place_f k s 50 (by omega), rplace_f k s 50 (by omega), hr, ← h1]
    simp only [Option.bind_some, if_true, bne_self_eq_false, Bool.false_eq_true, if_false]
    simp only [ladderbacklaw11_BlockTells.j0, Bool.false_eq_true, if_false]
    rw [show block_Field.f k i = some (blkField k i) from rfl]
    simp only [Option.bind_some]
    by_cases hi : 0 ≤ i ∧ i < ((FL k).length : Int)
    · rw [if_pos (show i ≥ 0 from hi.1), show decide (i < ((FL k).length : Int)) = true by simpa using hi.2]
      obtain ⟨m, rfl⟩ : ∃ m : Nat, i = (m : Int) := ⟨i.toNat, by omega⟩
      have hm : m < (FL k).length := by omega
      simp only [ladderbacklaw11_BlockTells.j1, if_true]
      rw [field_at k m hm, if_pos hi.1, if_pos hi.2, rdOf_at, if_pos rfl, if_pos (by omega), if_pos (by unfold rd; rw [Int.toNat_natCast]), place_f k _ 48 (by omega), plc_own (FL k) hnd m hm _ 0 (by omega) (by omega)]
      simp only [Option.bind_some, if_true]
      exact j2T k s 48 (by omega)
    · have hj : ladderbacklaw11_BlockTells.j1 49 k i s (FL k) (FT k) (blkField k i).1 (blkField k i).2 false = some true := by
        rw [field_out k i hi]
        simp only [ladderbacklaw11_BlockTells.j1, Bool.false_eq_true, if_false]
        rw [if_pos (by rw [ByteArray.toList_eq])]
        simp only [if_true]
        exact j2T k s 48 (by omega)
      by_cases h0 : i ≥ 0
      · rw [if_pos h0, show decide (i < ((FL k).length : Int)) = false by simp; omega]
        exact hj
      · rw [if_neg h0]
        exact hj
end Go.Proofs.YtgjnmoocgkpkiaaDoor.Pure
