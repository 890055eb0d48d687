/- BlockRuns: an instance behind an input that is set, what is got of it, and behind a run, is the reference's; plain. No condition. -/
import Derived.Test.YthldpihpjekleaaDoorQBlockRunsx
namespace Go.Proofs.YthldpihpjekleaaDoor.Pure
open Go.Proofs.YthldpihpjekleaaDoor Go.Proofs.YthldpihpjekleaaDoor.QBlockRuns Go.RowKit Go.Proofs.YthldpihpjekleaaDoorW.PrintWords Go.Proofs.YthldpihpjekleaaDoorW.PrintLast Go.Proofs.YthldpihpjekleaaDoorW.PrintMore
set_option linter.unusedSimpArgs false
set_option linter.unusedVariables false
theorem awakeT : ladderbacklaw11_awake.f = some true := by decide +kernel
/-- What is known of a kind: its fields' types, and how many are inputs. -/
structure Kd8 (k : Int) (ts : List Int) (n : Int) : Prop where
  ins : block_Inputs.f k = some n
  cnt : block_Fields.f k = some (ts.length : Int)
  ref : ∀ K, ∃ nm, ladderbackref11_Fields.f (K + 1) k = some (nm, ts, n)
  n0 : 0 ≤ n
  le : n ≤ (ts.length : Int)
  l8 : ts.length ≤ 8
  ty : ∀ i : Nat, i < ts.length → ∃ nm, block_Field.f k (i : Int) = some (nm, ts.getD i 0)
  in3 : ∀ i : Nat, i < ts.length → ts.getD i 0 = 1 ∨ ts.getD i 0 = 2 ∨ ts.getD i 0 = 6
theorem wrapE (t v : Int) (ht : t = 1 ∨ t = 2 ∨ t = 6) (hv : -9223372036854775808 ≤ v ∧ v ≤ 9223372036854775807) : ∃ u, kind_Wrap.f t v = some u ∧ ladderbackref01_Wrap.f t v = some u := by
  rcases ht with rfl | rfl | rfl
  · by_cases h : v = 0
    · exact ⟨0, by simp [kind_Wrap.f, h], by simp [ladderbackref01_Wrap.f, ladderbackref01_Right.f, h]⟩
    · exact ⟨1, by simp [kind_Wrap.f, h], by simp [ladderbackref01_Wrap.f, ladderbackref01_Right.f, h]⟩
  · have hm : (wrap64 ((wrap64 (32767 - -32768)) + 1)) = 65536 := by decide +kernel
    refine ⟨wrap64 (IntKind.i16.wrap v), by simp [kind_Wrap.f], ?_⟩
    have e : wrap64 (IntKind.i16.wrap v) = (v + 32768) % 65536 - 32768 := by
      simp only [IntKind.wrap, IntKind.min, IntKind.max, IntKind.signed, IntKind.bits, wrap64]
      simp
      omega
    rw [e]
    obtain ⟨r, hr⟩ : ∃ r, r = Int.tmod v 65536 := ⟨_, rfl⟩
    have hq : r = (if 0 ≤ v then v % 65536 else -((-v) % 65536)) := by
      rw [hr]
      split
      · exact Int.tmod_eq_emod_of_nonneg (by omega)
      · rw [show v = -(-v) by omega, Int.neg_tmod, Int.tmod_eq_emod_of_nonneg (by omega)]
        simp
    have w64 : ∀ x : Int, -1000000 ≤ x → x ≤ 1000000 → wrap64 x = x := fun x h1 h2 => Go.IntWalk.wrap64_in x (by omega)
    have hb : -65536 < r ∧ r < 65536 := by split at hq <;> omega
    simp only [ladderbackref01_Wrap.f, ladderbackref01_Right.f, ladderbackref01_High.f, ladderbackref01_Low.f]
    simp only [show ((2 : Int) > 0) = True by simp, show decide ((2 : Int) < 7) = true by decide, Option.bind_some, if_true, show ((2 : Int) = 6) = False by simp, show ((2 : Int) = 1) = False by simp, show ((2 : Int) = 2) = True by simp, if_false, hm, ← hr, show ((65536 : Int) = 0) = False by simp]
    by_cases h1 : r < -32768
    · rw [if_pos h1]
      rw [w64 (r + 65536) (by omega) (by omega)]
      rw [if_neg (show ¬ (r + 65536 > 32767) by omega)]
      split at hq <;> (congr 1; omega)
    · rw [if_neg h1]
      by_cases h2 : r > 32767
      · rw [if_pos h2, w64 (r - 65536) (by omega) (by omega)]
        split at hq <;> (congr 1; omega)
      · rw [if_neg h2]
        split at hq <;> (congr 1; omega)
  · exact ⟨v, by simp [kind_Wrap.f], by simp [ladderbackref01_Wrap.f, ladderbackref01_Right.f]⟩
theorem small (i n : Int) (h0 : 0 ≤ i) (hn : i < n) (h8 : n ≤ 8) : i = 0 ∨ i = 1 ∨ i = 2 ∨ i = 3 ∨ i = 4 ∨ i = 5 ∨ i = 6 ∨ i = 7 := by omega

theorem setE (k : Int) (ts : List Int) (n : Int) (H : Kd8 k ts n) (K : Nat) (x0 x1 x2 x3 x4 x5 x6 x7 x8 x9 i v : Int) (hv : -9223372036854775808 ≤ v ∧ v ≤ 9223372036854775807) : ∃ y0 y1 y2 y3 y4 y5 y6 y7 y8 y9, block_Set.f (K + 1) k x0 x1 x2 x3 x4 x5 x6 x7 x8 x9 i v = some (y0, y1, y2, y3, y4, y5, y6, y7, y8, y9) ∧ ladderbackref11_Set.f (K + 1) k x0 x1 x2 x3 x4 x5 x6 x7 x8 x9 i v = some (y0, y1, y2, y3, y4, y5, y6, y7, y8, y9) := by
  obtain ⟨nm, hF⟩ := H.ref K
  unfold block_Set.f ladderbackref11_Set.f
  rw [hF, H.ins]
  simp only [Option.bind_some]
  by_cases h0 : i < 0
  · refine ⟨x0, x1, x2, x3, x4, x5, x6, x7, x8, x9, ?_, ?_⟩
    · rw [if_pos h0, block_Set.j0, if_pos rfl]
    · rw [if_neg (by omega)]
  by_cases hn : i < n
  rotate_left
  · refine ⟨x0, x1, x2, x3, x4, x5, x6, x7, x8, x9, ?_, ?_⟩
    · rw [if_neg h0, show decide (i ≥ n) = true from decide_eq_true (by omega), block_Set.j0, if_pos rfl]
    · rw [if_pos (by omega), if_neg hn]
  have hl := H.le
  have h8 := H.l8
  rw [if_neg h0, show decide (i ≥ n) = false from decide_eq_false (by omega), block_Set.j0, if_neg (by decide), if_pos (show i ≥ 0 by omega), if_pos hn, if_pos (show 0 ≤ i by omega), if_pos (show i < (ts.length : Int) by omega)]
  have hi : i.toNat < ts.length := by omega
  obtain ⟨nm2, hT⟩ := H.ty i.toNat hi
  have hie : ((i.toNat : Nat) : Int) = i := by omega
  rw [hie] at hT
  obtain ⟨u, hw1, hw2⟩ := wrapE _ v (H.in3 i.toNat hi) hv
  have hrd : rd ts i = ts.getD i.toNat 0 := rfl
  rw [hT, hrd]
  simp only [Option.bind_some]
  rw [hw1, hw2]
  simp only [Option.bind_some]
  rcases small i n (by omega) hn (by omega) with rfl | rfl | rfl | rfl | rfl | rfl | rfl | rfl
  · exact ⟨u, x1, x2, x3, x4, x5, x6, x7, x8, x9, by simp, by simp⟩
  · exact ⟨x0, u, x2, x3, x4, x5, x6, x7, x8, x9, by simp, by simp⟩
  · exact ⟨x0, x1, u, x3, x4, x5, x6, x7, x8, x9, by simp, by simp⟩
  · exact ⟨x0, x1, x2, u, x4, x5, x6, x7, x8, x9, by simp, by simp⟩
  · exact ⟨x0, x1, x2, x3, u, x5, x6, x7, x8, x9, by simp, by simp⟩
  · exact ⟨x0, x1, x2, x3, x4, u, x6, x7, x8, x9, by simp, by simp⟩
  · exact ⟨x0, x1, x2, x3, x4, x5, u, x7, x8, x9, by simp, by simp⟩
  · exact ⟨x0, x1, x2, x3, x4, x5, x6, u, x8, x9, by simp, by simp⟩
theorem getE (k : Int) (ts : List Int) (n : Int) (H : Kd8 k ts n) (K : Nat) (x0 x1 x2 x3 x4 x5 x6 x7 x8 x9 i : Int) (hx : ∀ y, y ∈ [x0, x1, x2, x3, x4, x5, x6, x7, x8, x9] → -9223372036854775808 ≤ y ∧ y ≤ 9223372036854775807) : ∃ u, block_Get.f (K + 1) k x0 x1 x2 x3 x4 x5 x6 x7 x8 x9 i = some u ∧ ladderbackref11_Get.f (K + 1) k x0 x1 x2 x3 x4 x5 x6 x7 x8 x9 i = some u := by
  obtain ⟨nm, hF⟩ := H.ref K
  unfold block_Get.f ladderbackref11_Get.f
  rw [hF, H.cnt]
  simp only [Option.bind_some]
  by_cases h0 : i < 0
  · exact ⟨0, by rw [if_pos h0, block_Get.j0, if_pos rfl], by rw [if_pos h0]⟩
  by_cases hn : i < (ts.length : Int)
  rotate_left
  · refine ⟨0, ?_, ?_⟩
    · rw [if_neg h0, show decide (i ≥ (ts.length : Int)) = true from decide_eq_true (by omega), block_Get.j0, if_pos rfl]
    · rw [if_neg h0, if_pos (show i ≥ (ts.length : Int) by omega)]
  have h8 := H.l8
  rw [if_neg h0, show decide (i ≥ (ts.length : Int)) = false from decide_eq_false (by omega), block_Get.j0, if_neg (by decide), if_neg h0, if_neg (show ¬ (i ≥ (ts.length : Int)) by omega), if_pos (show 0 ≤ i by omega), if_pos hn]
  have hi : i.toNat < ts.length := by omega
  obtain ⟨nm2, hT⟩ := H.ty i.toNat hi
  have hie : ((i.toNat : Nat) : Int) = i := by omega
  rw [hie] at hT
  have hrd : rd ts i = ts.getD i.toNat 0 := rfl
  have h3 := H.in3 i.toNat hi
  rw [hT, hrd]
  simp only [Option.bind_some]
  rcases small i _ (by omega) hn (by omega) with rfl | rfl | rfl | rfl | rfl | rfl | rfl | rfl
  · obtain ⟨u, hw1, hw2⟩ := wrapE _ x0 h3 (hx x0 (by simp))
    refine ⟨u, ?_, ?_⟩
    · simp only [ if_true, if_false]; rw [hw1]; rfl
    · simp only [ if_true, if_false]; rw [hw2]; rfl
  · obtain ⟨u, hw1, hw2⟩ := wrapE _ x1 h3 (hx x1 (by simp))
    refine ⟨u, ?_, ?_⟩
    · simp only [show ((1 : Int) = 0) = False by simp,  if_true, if_false]; rw [hw1]; rfl
    · simp only [show ((1 : Int) = 0) = False by simp,  if_true, if_false]; rw [hw2]; rfl
  · obtain ⟨u, hw1, hw2⟩ := wrapE _ x2 h3 (hx x2 (by simp))
    refine ⟨u, ?_, ?_⟩
    · simp only [show ((2 : Int) = 0) = False by simp, show ((2 : Int) = 1) = False by simp,  if_true, if_false]; rw [hw1]; rfl
    · simp only [show ((2 : Int) = 0) = False by simp, show ((2 : Int) = 1) = False by simp,  if_true, if_false]; rw [hw2]; rfl
  · obtain ⟨u, hw1, hw2⟩ := wrapE _ x3 h3 (hx x3 (by simp))
    refine ⟨u, ?_, ?_⟩
    · simp only [show ((3 : Int) = 0) = False by simp, show ((3 : Int) = 1) = False by simp, show ((3 : Int) = 2) = False by simp,  if_true, if_false]; rw [hw1]; rfl
    · simp only [show ((3 : Int) = 0) = False by simp, show ((3 : Int) = 1) = False by simp, show ((3 : Int) = 2) = False by simp,  if_true, if_false]; rw [hw2]; rfl
  · obtain ⟨u, hw1, hw2⟩ := wrapE _ x4 h3 (hx x4 (by simp))
    refine ⟨u, ?_, ?_⟩
    · simp only [show ((4 : Int) = 0) = False by simp, show ((4 : Int) = 1) = False by simp, show ((4 : Int) = 2) = False by simp, show ((4 : Int) = 3) = False by simp,  if_true, if_false]; rw [hw1]; rfl
    · simp only [show ((4 : Int) = 0) = False by simp, show ((4 : Int) = 1) = False by simp, show ((4 : Int) = 2) = False by simp, show ((4 : Int) = 3) = False by simp,  if_true, if_false]; rw [hw2]; rfl
  · obtain ⟨u, hw1, hw2⟩ := wrapE _ x5 h3 (hx x5 (by simp))
    refine ⟨u, ?_, ?_⟩
    · simp only [show ((5 : Int) = 0) = False by simp, show ((5 : Int) = 1) = False by simp, show ((5 : Int) = 2) = False by simp, show ((5 : Int) = 3) = False by simp, show ((5 : Int) = 4) = False by simp,  if_true, if_false]; rw [hw1]; rfl
    · simp only [show ((5 : Int) = 0) = False by simp, show ((5 : Int) = 1) = False by simp, show ((5 : Int) = 2) = False by simp, show ((5 : Int) = 3) = False by simp, show ((5 : Int) = 4) = False by simp,  if_true, if_false]; rw [hw2]; rfl
  · obtain ⟨u, hw1, hw2⟩ := wrapE _ x6 h3 (hx x6 (by simp))
    refine ⟨u, ?_, ?_⟩
    · simp only [show ((6 : Int) = 0) = False by simp, show ((6 : Int) = 1) = False by simp, show ((6 : Int) = 2) = False by simp, show ((6 : Int) = 3) = False by simp, show ((6 : Int) = 4) = False by simp, show ((6 : Int) = 5) = False by simp,  if_true, if_false]; rw [hw1]; rfl
    · simp only [show ((6 : Int) = 0) = False by simp, show ((6 : Int) = 1) = False by simp, show ((6 : Int) = 2) = False by simp, show ((6 : Int) = 3) = False by simp, show ((6 : Int) = 4) = False by simp, show ((6 : Int) = 5) = False by simp,  if_true, if_false]; rw [hw2]; rfl
  · obtain ⟨u, hw1, hw2⟩ := wrapE _ x7 h3 (hx x7 (by simp))
    refine ⟨u, ?_, ?_⟩
    · simp only [show ((7 : Int) = 0) = False by simp, show ((7 : Int) = 1) = False by simp, show ((7 : Int) = 2) = False by simp, show ((7 : Int) = 3) = False by simp, show ((7 : Int) = 4) = False by simp, show ((7 : Int) = 5) = False by simp, show ((7 : Int) = 6) = False by simp,  if_true, if_false]; rw [hw1]; rfl
    · simp only [show ((7 : Int) = 0) = False by simp, show ((7 : Int) = 1) = False by simp, show ((7 : Int) = 2) = False by simp, show ((7 : Int) = 3) = False by simp, show ((7 : Int) = 4) = False by simp, show ((7 : Int) = 5) = False by simp, show ((7 : Int) = 6) = False by simp,  if_true, if_false]; rw [hw2]; rfl
theorem runE (k now : Int) (K : Nat) (hK : 4 ≤ K) (x0 x1 x2 x3 x4 x5 x6 x7 x8 x9 : Int) : ∃ y0 y1 y2 y3 y4 y5 y6 y7 y8 y9, block_Run.f k x0 x1 x2 x3 x4 x5 x6 x7 x8 x9 now = some (y0, y1, y2, y3, y4, y5, y6, y7, y8, y9) ∧ ladderbackref11_Run.f K k x0 x1 x2 x3 x4 x5 x6 x7 x8 x9 now = some (y0, y1, y2, y3, y4, y5, y6, y7, y8, y9) := by
  obtain ⟨K, rfl⟩ : ∃ K', K = K' + 1 + 1 + 1 + 1 := ⟨K - 4, by omega⟩
  unfold block_Run.f ladderbackref11_Run.f timer_Is.f count_Is.f
  by_cases h1 : 1 ≤ k ∧ k ≤ 3
  · rw [if_pos (show k ≥ 1 from h1.1), if_pos (show k ≥ 1 from h1.1), show decide (k ≤ 3) = true from decide_eq_true h1.2, ladderbackref11_Run.j0, if_pos rfl]
    exact ⟨_, _, _, _, _, _, _, _, _, _, rfl, rfl⟩
  have hA : (if k ≥ 1 then (some (decide (k ≤ 3))) else (some false)) = some false := by
    split
    · rw [show decide (k ≤ 3) = false from decide_eq_false (by omega)]
    · rfl
  have hB : (if k ≥ 1 then (ladderbackref11_Run.j0 (K + 1 + 1 + 1 + 1) k now (decide (k ≤ 3)) x0 x1 x2 x3 x4 x5 x6 x7 x8 x9) else (ladderbackref11_Run.j0 (K + 1 + 1 + 1 + 1) k now false x0 x1 x2 x3 x4 x5 x6 x7 x8 x9)) = ladderbackref11_Run.j0 (K + 1 + 1 + 1 + 1) k now false x0 x1 x2 x3 x4 x5 x6 x7 x8 x9 := by
    split
    · rw [show decide (k ≤ 3) = false from decide_eq_false (by omega)]
    · rfl
  rw [hA, hB, ladderbackref11_Run.j0, if_neg (show ¬ (false = true) by decide)]
  simp only [Option.bind_some, Bool.false_eq_true, if_false]
  by_cases h4 : 4 ≤ k ∧ k ≤ 6
  · rw [if_pos (show k ≥ 4 from h4.1), if_pos (show k ≥ 4 from h4.1), show decide (k ≤ 6) = true from decide_eq_true h4.2, ladderbackref11_Run.j1, if_pos rfl]
    exact ⟨_, _, _, _, _, _, _, _, _, _, rfl, rfl⟩
  have hC : (if k ≥ 4 then (some (decide (k ≤ 6))) else (some false)) = some false := by
    split
    · rw [show decide (k ≤ 6) = false from decide_eq_false (by omega)]
    · rfl
  have hD : (if k ≥ 4 then (ladderbackref11_Run.j1 (K + 1 + 1 + 1) k (decide (k ≤ 6)) x0 x1 x2 x3 x4 x5 x6 x7 x8 x9) else (ladderbackref11_Run.j1 (K + 1 + 1 + 1) k false x0 x1 x2 x3 x4 x5 x6 x7 x8 x9)) = ladderbackref11_Run.j1 (K + 1 + 1 + 1) k false x0 x1 x2 x3 x4 x5 x6 x7 x8 x9 := by
    split
    · rw [show decide (k ≤ 6) = false from decide_eq_false (by omega)]
    · rfl
  rw [hC, hD, ladderbackref11_Run.j1, if_neg (show ¬ (false = true) by decide)]
  simp only [Option.bind_some, Bool.false_eq_true, if_false]
  unfold ladderbackref10_Step.f trig_Step.f
  by_cases h7 : k = 7
  · subst h7
    by_cases a : x0 = 0 <;> by_cases b : x2 = 0 <;> exact ⟨_, _, _, _, _, _, _, _, _, _, rfl, by simp [ladderbackref10_Step.j0, ladderbackref10_Step.j1, trigS, In.tup, bi, a, b]⟩
  by_cases h8 : k = 8
  · subst h8
    by_cases a : x0 = 0 <;> by_cases b : x2 = 0 <;> exact ⟨_, _, _, _, _, _, _, _, _, _, rfl, by simp [ladderbackref10_Step.j0, ladderbackref10_Step.j1, trigS, In.tup, bi, a, b]⟩
  · exact ⟨_, _, _, _, _, _, _, _, _, _, rfl, by simp [ladderbackref10_Step.j0, trigS, In.tup, h7, h8]⟩
theorem kind1 : Kd8 1 [1, 6, 1, 6] 2 := ⟨by rfl, by rfl, fun K => ⟨_, rfl⟩, by decide, by decide, by decide, fun i hi => by
    have : i = 0 ∨ i = 1 ∨ i = 2 ∨ i = 3 := by simp at hi; omega
    rcases this with rfl | rfl | rfl | rfl <;> exact ⟨_, rfl⟩, fun i hi => by
    have : i = 0 ∨ i = 1 ∨ i = 2 ∨ i = 3 := by simp at hi; omega
    rcases this with rfl | rfl | rfl | rfl <;> decide⟩
theorem kind2 : Kd8 2 [1, 6, 1, 6] 2 := ⟨by rfl, by rfl, fun K => ⟨_, rfl⟩, by decide, by decide, by decide, fun i hi => by
    have : i = 0 ∨ i = 1 ∨ i = 2 ∨ i = 3 := by simp at hi; omega
    rcases this with rfl | rfl | rfl | rfl <;> exact ⟨_, rfl⟩, fun i hi => by
    have : i = 0 ∨ i = 1 ∨ i = 2 ∨ i = 3 := by simp at hi; omega
    rcases this with rfl | rfl | rfl | rfl <;> decide⟩
theorem kind3 : Kd8 3 [1, 6, 1, 6] 2 := ⟨by rfl, by rfl, fun K => ⟨_, rfl⟩, by decide, by decide, by decide, fun i hi => by
    have : i = 0 ∨ i = 1 ∨ i = 2 ∨ i = 3 := by simp at hi; omega
    rcases this with rfl | rfl | rfl | rfl <;> exact ⟨_, rfl⟩, fun i hi => by
    have : i = 0 ∨ i = 1 ∨ i = 2 ∨ i = 3 := by simp at hi; omega
    rcases this with rfl | rfl | rfl | rfl <;> decide⟩
theorem kind4 : Kd8 4 [1, 1, 2, 1, 2] 3 := ⟨by rfl, by rfl, fun K => ⟨_, rfl⟩, by decide, by decide, by decide, fun i hi => by
    have : i = 0 ∨ i = 1 ∨ i = 2 ∨ i = 3 ∨ i = 4 := by simp at hi; omega
    rcases this with rfl | rfl | rfl | rfl | rfl <;> exact ⟨_, rfl⟩, fun i hi => by
    have : i = 0 ∨ i = 1 ∨ i = 2 ∨ i = 3 ∨ i = 4 := by simp at hi; omega
    rcases this with rfl | rfl | rfl | rfl | rfl <;> decide⟩
theorem kind5 : Kd8 5 [1, 1, 2, 1, 2] 3 := ⟨by rfl, by rfl, fun K => ⟨_, rfl⟩, by decide, by decide, by decide, fun i hi => by
    have : i = 0 ∨ i = 1 ∨ i = 2 ∨ i = 3 ∨ i = 4 := by simp at hi; omega
    rcases this with rfl | rfl | rfl | rfl | rfl <;> exact ⟨_, rfl⟩, fun i hi => by
    have : i = 0 ∨ i = 1 ∨ i = 2 ∨ i = 3 ∨ i = 4 := by simp at hi; omega
    rcases this with rfl | rfl | rfl | rfl | rfl <;> decide⟩
theorem kind6 : Kd8 6 [1, 1, 1, 1, 2, 1, 1, 2] 5 := ⟨by rfl, by rfl, fun K => ⟨_, rfl⟩, by decide, by decide, by decide, fun i hi => by
    have : i = 0 ∨ i = 1 ∨ i = 2 ∨ i = 3 ∨ i = 4 ∨ i = 5 ∨ i = 6 ∨ i = 7 := by simp at hi; omega
    rcases this with rfl | rfl | rfl | rfl | rfl | rfl | rfl | rfl <;> exact ⟨_, rfl⟩, fun i hi => by
    have : i = 0 ∨ i = 1 ∨ i = 2 ∨ i = 3 ∨ i = 4 ∨ i = 5 ∨ i = 6 ∨ i = 7 := by simp at hi; omega
    rcases this with rfl | rfl | rfl | rfl | rfl | rfl | rfl | rfl <;> decide⟩
theorem kind7 : Kd8 7 [1, 1] 1 := ⟨by rfl, by rfl, fun K => ⟨_, rfl⟩, by decide, by decide, by decide, fun i hi => by
    have : i = 0 ∨ i = 1 := by simp at hi; omega
    rcases this with rfl | rfl <;> exact ⟨_, rfl⟩, fun i hi => by
    have : i = 0 ∨ i = 1 := by simp at hi; omega
    rcases this with rfl | rfl <;> decide⟩
theorem kind8 : Kd8 8 [1, 1] 1 := ⟨by rfl, by rfl, fun K => ⟨_, rfl⟩, by decide, by decide, by decide, fun i hi => by
    have : i = 0 ∨ i = 1 := by simp at hi; omega
    rcases this with rfl | rfl <;> exact ⟨_, rfl⟩, fun i hi => by
    have : i = 0 ∨ i = 1 := by simp at hi; omega
    rcases this with rfl | rfl <;> decide⟩
theorem kindNo (k : Int) (h : ¬ (1 ≤ k ∧ k ≤ 8)) : Kd8 k [] 0 := by
  have hk : ∀ m : Int, 1 ≤ m → m ≤ 8 → ¬ k = m := fun m h1 h2 e => h (by omega)
  refine ⟨?_, ?_, fun K => ⟨[], ?_⟩, by decide, by decide, by decide, fun i hi => absurd hi (by simp), fun i hi => absurd hi (by simp)⟩
  · simp [block_Inputs.f, blkIn, hk 1, hk 2, hk 3, hk 4, hk 5, hk 6, hk 7, hk 8]
  · simp [block_Fields.f, blkCnt, blkTypes, blkFt0, blkFt1, blkFt2, blkFt3, blkFt4, blkFt5, blkFt6, blkFt7, cntF, hk 1, hk 2, hk 3, hk 4, hk 5, hk 6, hk 7, hk 8]
  · have hB : ladderbackref11_Fields.f (K + 1) k = ladderbackref11_Fields.j0 (K + 1) k false := by
      unfold ladderbackref11_Fields.f
      split
      · rw [show decide (k ≤ 3) = false from decide_eq_false (by omega)]
      · rfl
    rw [hB]
    simp [ladderbackref11_Fields.j0, hk 4, hk 5, hk 6, hk 7, hk 8]
theorem kindAny (k : Int) : ∃ ts n, Kd8 k ts n := by
  by_cases h : 1 ≤ k ∧ k ≤ 8
  · rcases (by omega : k = 1 ∨ k = 2 ∨ k = 3 ∨ k = 4 ∨ k = 5 ∨ k = 6 ∨ k = 7 ∨ k = 8) with rfl | rfl | rfl | rfl | rfl | rfl | rfl | rfl
    · exact ⟨_, _, kind1⟩
    · exact ⟨_, _, kind2⟩
    · exact ⟨_, _, kind3⟩
    · exact ⟨_, _, kind4⟩
    · exact ⟨_, _, kind5⟩
    · exact ⟨_, _, kind6⟩
    · exact ⟨_, _, kind7⟩
    · exact ⟨_, _, kind8⟩
  · exact ⟨_, _, kindNo k h⟩
theorem i64b {x : Int} (h : (Lit.int .i64 x).wf = true) : -9223372036854775808 ≤ x ∧ x ≤ 9223372036854775807 := by
  simpa [Lit.wf, IntKind.min, IntKind.max, IntKind.signed, IntKind.bits] using h
theorem BlockRuns : ladderbacklaw11_BlockRuns.Pure := by
  intro y0 h0 y1 h1 y2 h2
  obtain ⟨ts, n, H⟩ := kindAny y0
  obtain ⟨⟨x0, x1, x2, x3, x4, x5, x6, x7, x8, x9⟩⟩ := y1
  obtain ⟨b0, b1, b2, b3, b4, b5, b6, b7, b8, b9⟩ := h1
  obtain ⟨i, v, now⟩ := y2
  obtain ⟨_, hv, _⟩ := h2
  refine ⟨3 + 1, ?_⟩
  obtain ⟨p0, p1, p2, p3, p4, p5, p6, p7, p8, p9, hs1, hs2⟩ := setE y0 ts n H 3 x0 x1 x2 x3 x4 x5 x6 x7 x8 x9 i v (i64b hv)
  obtain ⟨u, hg1, hg2⟩ := getE y0 ts n H 3 x0 x1 x2 x3 x4 x5 x6 x7 x8 x9 i (fun y hy => by
    simp only [List.mem_cons, List.not_mem_nil, or_false] at hy
    rcases hy with rfl | rfl | rfl | rfl | rfl | rfl | rfl | rfl | rfl | rfl
    · exact i64b b0
    · exact i64b b1
    · exact i64b b2
    · exact i64b b3
    · exact i64b b4
    · exact i64b b5
    · exact i64b b6
    · exact i64b b7
    · exact i64b b8
    · exact i64b b9)
  obtain ⟨q0, q1, q2, q3, q4, q5, q6, q7, q8, q9, hr1, hr2⟩ := runE y0 now (3 + 1) (by decide) x0 x1 x2 x3 x4 x5 x6 x7 x8 x9
  unfold ladderbacklaw11_BlockRuns.f
  simp only [hs1, hs2, hg1, hg2, hr1, hr2, awakeT, Option.bind_some, if_true]
end Go.Proofs.YthldpihpjekleaaDoor.Pure
