/- OpBack: a right instruction comes back from its line; others have none; plain. No condition. -/
import Derived.Test.YticmkjkngngdhaaDoorPNumOpBack
namespace Go.Proofs.YticmkjkngngdhaaDoor.Pure
open Go.Proofs.YticmkjkngngdhaaDoor Go.Proofs.YticmkjkngngdhaaDoor.QOpBack Go.Proofs.YticmkjkngngdhaaDoor.POpBack Go.RowKit Go.Proofs.YticmkjkngngdhaaDoorW.PrintWords Go.Proofs.YticmkjkngngdhaaDoorW.PrintLast Go.Proofs.YticmkjkngngdhaaDoorW.PrintMore
set_option linter.unusedSimpArgs false
set_option maxRecDepth 10000
theorem index_hit32 : ∀ (a b : List UInt8), 32 ∉ a → Lib.index (a ++ 32 :: b) [32] = (a.length : Int)
  | [], b, _ => by simp [Lib.index]
  | x :: a, b, h => by
    have hx : x ≠ 32 := fun e => h (by simp [e])
    have ih := index_hit32 a b (fun e => h (by simp [e]))
    simp only [List.cons_append, Lib.index]
    rw [ih]
    rw [if_neg (by simp; exact fun e => hx e.symm), if_neg (by simp)]
    simp
theorem index_miss32 : ∀ (a : List UInt8), 32 ∉ a → Lib.index a [32] = -1
  | [], _ => by simp [Lib.index]
  | x :: a, h => by
    have hx : x ≠ 32 := fun e => h (by simp [e])
    have ih := index_miss32 a (fun e => h (by simp [e]))
    simp only [Lib.index]
    rw [ih]
    rw [if_neg (by simp; exact fun e => hx e.symm)]
    simp
def B32 : ByteArray := ⟨#[32]⟩
def spl (l : List UInt8) : List ByteArray := Lib.splitB B32 0 (Lib.countB ⟨l.toArray⟩ B32) ⟨l.toArray⟩
theorem spl_last (a : List UInt8) (h : 32 ∉ a) : spl a = [⟨a.toArray⟩] := by
  have hx : Lib.indexB ⟨a.toArray⟩ B32 = -1 := by
    show Lib.index a [32] = -1
    exact index_miss32 a h
  unfold spl
  exact Lib.splitB_miss B32 0 _ _ hx
theorem spl_more (a b : List UInt8) (h : 32 ∉ a) : spl (a ++ 32 :: b) = ⟨a.toArray⟩ :: spl b := by
  have hx : Lib.indexB ⟨(a ++ 32 :: b).toArray⟩ B32 = (a.length : Int) := by
    show Lib.index (a ++ 32 :: b) [32] = (a.length : Int)
    exact index_hit32 a b h
  have he : (⟨(a ++ 32 :: b).toArray⟩ : ByteArray).extract (a.length + B32.size) (⟨(a ++ 32 :: b).toArray⟩ : ByteArray).size = ⟨b.toArray⟩ := by
    rw [show B32.size = 1 from rfl, size_mk, extract_mk]
    congr 2
    rw [List.take_of_length_le (by simp)]
    simp
  have h0 : (⟨(a ++ 32 :: b).toArray⟩ : ByteArray).extract 0 (a.length + 0) = ⟨a.toArray⟩ := by
    rw [extract_mk]
    congr 2
    simp
  unfold spl
  rw [Lib.countB_hit _ B32 a.length (by decide) hx, he, Nat.add_comm 1, Lib.splitB_hit B32 0 _ _ a.length hx, he, h0]
theorem split_f (l : List UInt8) (h : l.length < 1000) : strings_Split.f ⟨l.toArray⟩ ⟨#[32]⟩ = some (spl l) := by
  unfold strings_Split.f
  rw [if_pos ⟨by rw [size_mk]; omega, by decide⟩]
  rfl
theorem printL_32 (v : Int) : (32 : UInt8) ∉ printL v := by
  have h := dgs_digits 20 v.natAbs 32
  intro hm
  unfold printL at hm
  split at hm
  · rcases List.mem_cons.1 hm with h1 | h1
    · cases h1
    · have := h h1
      unfold Dig at this
      have e : (32 : UInt8).toNat = 32 := rfl
      omega
  · have := h hm
    unfold Dig at this
    have e : (32 : UInt8).toNat = 32 := rfl
    omega
theorem printL_len (v : Int) (hw : (Lit.int .i64 v).wf = true) : (printL v).length ≤ 21 := by
  have hb := bounds_i64 hw
  have h20 : v.natAbs < 10 ^ (19 + 1) := by
    have : (10 : Nat) ^ (19 + 1) = 100000000000000000000 := by decide
    omega
  have hl : (dgs 20 v.natAbs []).length ≤ 20 := dgs_length 20 v.natAbs 19 h20
  unfold printL
  split
  · simp; omega
  · omega
theorem app_lists (a b : List UInt8) : (⟨a.toArray⟩ : ByteArray) ++ ⟨b.toArray⟩ = ⟨(a ++ b).toArray⟩ := by
  apply ByteArray.ext
  simp
def wdL (n : Int) : List UInt8 := (opWd n).data.toList
theorem wd_mk (n : Int) : opWd n = ⟨(wdL n).toArray⟩ := by unfold wdL; simp
theorem word_facts (m : Fin 38) : (32 : UInt8) ∉ wdL (m.1 : Int) ∧ (wdL (m.1 : Int)).length ≤ 6 ∧ wdL (m.1 : Int) ≠ [] ∧ opFind (opWd (m.1 : Int)) = ((m.1 : Int), true) ∧ (opA (m.1 : Int) = 0 → opB (m.1 : Int) = 0) := by
  have : ∀ m : Fin 38, (32 : UInt8) ∉ wdL (m.1 : Int) ∧ (wdL (m.1 : Int)).length ≤ 6 ∧ wdL (m.1 : Int) ≠ [] ∧ opFind (opWd (m.1 : Int)) = ((m.1 : Int), true) ∧ (opA (m.1 : Int) = 0 → opB (m.1 : Int) = 0) := by decide +kernel
  exact this m
theorem awakeT : ladderbacklaw12_awake.f = some true := by decide +kernel
theorem isF (n : Int) : op_Is.f n = some (opIn n) := by
  unfold op_Is.f opIn
  by_cases h : n ≥ 0
  · rw [if_pos h, show decide (0 ≤ n) = true by simpa using h, Bool.true_and]
  · rw [if_neg h, show decide (0 ≤ n) = false by simpa using h, Bool.false_and]
def mayS (n w : Int) : Bool := if w = 0 then n == 0 else decide (0 ≤ n) && decide (n ≤ 65535)
theorem mayF (n w : Int) : op_may.f n w = some (mayS n w) := by
  unfold op_may.f mayS
  by_cases hw : w = 0
  · rw [if_pos hw, if_pos hw]
  · rw [if_neg hw, if_neg hw]
    by_cases h : n ≥ 0
    · rw [if_pos h, show decide (0 ≤ n) = true by simpa using h, Bool.true_and]
    · rw [if_neg h, show decide (0 ≤ n) = false by simpa using h, Bool.false_and]
def rightS (o a b : Int) : Bool := opIn o && (mayS a (opA o) && mayS b (opB o))
theorem rightF (o a b : Int) : op_Right.f o a b = some (rightS o a b) := by
  unfold op_Right.f rightS
  rw [show op_Shape.f o = some (opA o, opB o) from rfl, isF]
  simp only [Option.bind_some]
  rw [mayF, mayF]
  cases opIn o <;> cases mayS a (opA o) <;> rfl
/-- The line of a right instruction. -/
def lineL (o a b : Int) : List UInt8 := wdL o ++ (if opA o = 0 then [] else 32 :: printL a) ++ (if opB o = 0 then [] else 32 :: printL b)
theorem printF (v : Int) (hv : (Lit.int .i64 v).wf = true) : num_Print.f v = some ⟨(printL v).toArray⟩ := by
  unfold num_Print.f; rw [if_pos hv]; rfl
theorem lineF (o a b : Int) (ha : (Lit.int .i64 a).wf = true) (hb : (Lit.int .i64 b).wf = true) (h : rightS o a b = true) : op_Line.f o a b = some ⟨(lineL o a b).toArray⟩ := by
  have ho : 0 ≤ o ∧ o < 38 := by
    unfold rightS opIn at h
    simp only [Bool.and_eq_true, decide_eq_true_eq] at h
    exact h.1
  obtain ⟨m, rfl⟩ : ∃ m : Fin 38, o = (m.1 : Int) := ⟨⟨o.toNat, by omega⟩, by simp; omega⟩
  obtain ⟨_, hl, _, _, hab⟩ := word_facts m
  have la := printL_len a ha
  have lb := printL_len b hb
  unfold op_Line.f
  rw [rightF, h]
  simp only [Option.bind_some, if_true]
  rw [show op_Word.f (m.1 : Int) = some (opWd (m.1 : Int)) from rfl, show op_Shape.f (m.1 : Int) = some (opA (m.1 : Int), opB (m.1 : Int)) from rfl, wd_mk]
  simp only [Option.bind_some]
  rw [printF a ha, printF b hb]
  simp only [Option.bind_some]
  unfold lineL
  by_cases hA : opA (m.1 : Int) = 0
  · rw [if_pos hA, if_pos (hab hA), if_pos hA, if_pos (hab hA)]
    simp
  · rw [if_neg hA, if_neg hA]
    rw [show (⟨#[32]⟩ : ByteArray) = ⟨[32].toArray⟩ from rfl, app_lists, app_lists, size_mk, size_mk, size_mk, if_pos (by omega), if_pos (by simp; omega), app_lists]
    by_cases hB : opB (m.1 : Int) = 0
    · rw [if_pos hB, if_pos hB]
      simp
    · rw [if_neg hB, if_neg hB]
      rw [size_mk, size_mk, size_mk, if_pos (by omega), if_pos (by simp; omega), app_lists]
      simp
theorem may0 {n w : Int} (h : mayS n w = true) (hw : w = 0) : n = 0 := by
  unfold mayS at h
  rw [if_pos hw] at h
  simpa using h
theorem parse_back (v : Int) (hv : (Lit.int .i64 v).wf = true) (k : Nat) (hk : 40 ≤ k) : num_Parse.f k ⟨(printL v).toArray⟩ = some (v, true) := by
  obtain ⟨r, hr, _, h⟩ := nparse_told (printS v) k hk
  rw [h v hv rfl] at hr
  exact hr
theorem toL (l : List UInt8) : (⟨l.toArray⟩ : ByteArray).toList = l := toList_mk l
/-- Behind the split: the very instruction. -/
theorem readF (o a b : Int) (ha : (Lit.int .i64 a).wf = true) (hb : (Lit.int .i64 b).wf = true) (h : rightS o a b = true) : op_Read.f 60 ⟨(lineL o a b).toArray⟩ = some (o, a, b, true) := by
  have hline := lineF o a b ha hb h
  have hR : opIn o = true ∧ mayS a (opA o) = true ∧ mayS b (opB o) = true := by
    unfold rightS at h
    simpa only [Bool.and_eq_true] using h
  have ho : 0 ≤ o ∧ o < 38 := by
    have := hR.1
    unfold opIn at this
    simpa only [Bool.and_eq_true, decide_eq_true_eq] using this
  obtain ⟨m, rfl⟩ : ∃ m : Fin 38, o = (m.1 : Int) := ⟨⟨o.toNat, by omega⟩, by simp; omega⟩
  obtain ⟨h32, hl, _, hf, hab⟩ := word_facts m
  have la := printL_len a ha
  have lb := printL_len b hb
  have hlen : (lineL (m.1 : Int) a b).length < 1000 := by
    unfold lineL
    simp only [List.length_append]
    split <;> split <;> simp only [List.length_nil, List.length_cons] <;> omega
  have hfind : ∀ r, rdOf ByteArray.empty ((⟨(wdL (m.1 : Int)).toArray⟩ : ByteArray) :: r) 0 = opWd (m.1 : Int) := fun r => (wd_mk _).symm
  unfold op_Read.f
  rw [split_f _ hlen]
  simp only [Option.bind_some]
  by_cases hA : opA (m.1 : Int) = 0
  · have hB := hab hA
    obtain rfl := may0 hR.2.1 hA
    obtain rfl := may0 hR.2.2 hB
    have hs : spl (lineL (m.1 : Int) 0 0) = [⟨(wdL (m.1 : Int)).toArray⟩] := by
      unfold lineL
      rw [if_pos hA, if_pos hB, List.append_nil, List.append_nil, spl_last _ h32]
    rw [hs, hfind, show op_Find.f (opWd (m.1 : Int)) = some (opFind (opWd (m.1 : Int))) from rfl, hf]
    simp [op_Read.j0, op_Read.j1, hline]
  · by_cases hB : opB (m.1 : Int) = 0
    · obtain rfl := may0 hR.2.2 hB
      have hs : spl (lineL (m.1 : Int) a 0) = [⟨(wdL (m.1 : Int)).toArray⟩, ⟨(printL a).toArray⟩] := by
        unfold lineL
        rw [if_neg hA, if_pos hB, List.append_nil, spl_more _ _ h32, spl_last _ (printL_32 a)]
      rw [hs, hfind, show op_Find.f (opWd (m.1 : Int)) = some (opFind (opWd (m.1 : Int))) from rfl, hf]
      have hp := fun k hk => parse_back a ha k hk
      have hr1 : ∀ x : ByteArray, rdOf ByteArray.empty [x, (⟨(printL a).toArray⟩ : ByteArray)] 1 = ⟨(printL a).toArray⟩ := fun _ => rfl
      simp [op_Read.j0, op_Read.j1, hline, hr1, hp 60 (by omega), hp 59 (by omega), hp 58 (by omega), hp 57 (by omega)]
    · have hs : spl (lineL (m.1 : Int) a b) = [⟨(wdL (m.1 : Int)).toArray⟩, ⟨(printL a).toArray⟩, ⟨(printL b).toArray⟩] := by
        unfold lineL
        rw [if_neg hA, if_neg hB, List.append_assoc, List.cons_append, spl_more _ _ h32, spl_more _ _ (printL_32 a), spl_last _ (printL_32 b)]
      rw [hs, hfind, show op_Find.f (opWd (m.1 : Int)) = some (opFind (opWd (m.1 : Int))) from rfl, hf]
      have hp := fun k hk => parse_back a ha k hk
      have hq := fun k hk => parse_back b hb k hk
      have hr1 : ∀ x y : ByteArray, rdOf ByteArray.empty [x, (⟨(printL a).toArray⟩ : ByteArray), y] 1 = ⟨(printL a).toArray⟩ := fun _ _ => rfl
      have hr2 : ∀ x y : ByteArray, rdOf ByteArray.empty [x, y, (⟨(printL b).toArray⟩ : ByteArray)] 2 = ⟨(printL b).toArray⟩ := fun _ _ => rfl
      simp [op_Read.j0, op_Read.j1, hline, hr1, hr2, hp 60 (by omega), hp 59 (by omega), hp 58 (by omega), hp 57 (by omega), hq 60 (by omega), hq 59 (by omega), hq 58 (by omega), hq 57 (by omega)]
theorem OpBack : ladderbacklaw12_OpBack.Pure := by
  intro x hx
  obtain ⟨h0, h1, h2⟩ := hx
  refine ⟨60, ?_⟩
  unfold ladderbacklaw12_OpBack.f
  rw [rightF, awakeT]
  by_cases h : rightS x.f0 x.f1 x.f2 = true
  · have hne : lineL x.f0 x.f1 x.f2 ≠ [] := by
      have ho : 0 ≤ x.f0 ∧ x.f0 < 38 := by
        unfold rightS opIn at h
        simp only [Bool.and_eq_true, decide_eq_true_eq] at h
        exact h.1
      obtain ⟨m, hm⟩ : ∃ m : Fin 38, x.f0 = (m.1 : Int) := ⟨⟨x.f0.toNat, by omega⟩, by simp; omega⟩
      obtain ⟨_, _, hn, _, _⟩ := word_facts m
      unfold lineL
      rw [hm]
      intro e
      simp only [List.append_eq_nil_iff] at e
      exact hn e.1.1
    rw [lineF _ _ _ h1 h2 h, h]
    simp only [Option.bind_some]
    rw [readF _ _ _ h1 h2 h]
    simp only [Option.bind_some, toL]
    rw [if_pos (by simp [hne]), if_pos (by rfl), if_pos trivial, if_pos (by simp)]
  · simp only [Bool.not_eq_true] at h
    have hl : op_Line.f x.f0 x.f1 x.f2 = some ⟨#[]⟩ := by
      unfold op_Line.f
      rw [rightF, h]
      rfl
    have hr : op_Read.f 60 ⟨#[]⟩ = some (0, 0, 0, false) := by
      unfold op_Read.f
      rw [show (⟨#[]⟩ : ByteArray) = ⟨([] : List UInt8).toArray⟩ from rfl, split_f [] (by simp), spl_last [] (by simp)]
      simp only [Option.bind_some]
      rw [if_pos (by simp), show op_Find.f (rdOf ByteArray.empty [(⟨([] : List UInt8).toArray⟩ : ByteArray)] 0) = some (0, false) by decide +kernel]
      simp [op_Read.j0]
    rw [hl, h]
    simp only [Option.bind_some]
    rw [hr]
    simp only [Option.bind_some]
    rw [if_pos (by rw [show (⟨#[]⟩ : ByteArray) = ⟨([] : List UInt8).toArray⟩ from rfl, toL]; rfl), if_pos (by rfl), if_neg (by decide)]
end Go.Proofs.YticmkjkngngdhaaDoor.Pure
