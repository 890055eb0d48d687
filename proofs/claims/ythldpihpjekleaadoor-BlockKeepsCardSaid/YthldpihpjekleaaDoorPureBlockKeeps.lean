/- BlockKeeps: what was set is got, behind a run, too, and all other inputs stay; plain. No condition. -/
import Derived.Test.YthldpihpjekleaaDoorQBlockKeepsx
namespace Go.Proofs.YthldpihpjekleaaDoor.Pure
open Go.Proofs.YthldpihpjekleaaDoor Go.Proofs.YthldpihpjekleaaDoor.QBlockKeeps Go.RowKit Go.Proofs.YthldpihpjekleaaDoorW.PrintWords Go.Proofs.YthldpihpjekleaaDoorW.PrintLast Go.Proofs.YthldpihpjekleaaDoorW.PrintMore
set_option linter.unusedSimpArgs false
set_option linter.unusedVariables false
theorem awakeT : ladderbacklaw11_awake.f = some true := by decide +kernel
theorem wrapS (t v : Int) : ∃ u, kind_Wrap.f t v = some u := by
  unfold kind_Wrap.f
  repeat' split
  all_goals exact ⟨_, rfl⟩
theorem small (i n : Int) (h0 : 0 ≤ i) (hn : i < n) (h8 : n ≤ 5) : i = 0 ∨ i = 1 ∨ i = 2 ∨ i = 3 ∨ i = 4 := by omega
theorem insE (k : Int) : block_Inputs.f k = some (blkIn k) := rfl
theorem fldE (k i : Int) : block_Field.f k i = some (blkField k i) := rfl
theorem cntE (k : Int) : block_Fields.f k = some (blkCnt k) := rfl
theorem inB (k : Int) : 0 ≤ blkIn k ∧ blkIn k ≤ 5 := by
  unfold blkIn
  repeat' split
  all_goals decide
theorem setK (k : Int) (K : Nat) (x0 x1 x2 x3 x4 x5 x6 x7 x8 x9 i v : Int) : ∃ p0 p1 p2 p3 p4 p5 p6 p7 p8 p9, block_Set.f (K + 1) k x0 x1 x2 x3 x4 x5 x6 x7 x8 x9 i v = some (p0, p1, p2, p3, p4, p5, p6, p7, p8, p9) ∧ (¬ i = 0 → p0 = x0) ∧ (¬ i = 1 → p1 = x1) ∧ (¬ i = 2 → p2 = x2) ∧ (¬ i = 3 → p3 = x3) ∧ (¬ i = 4 → p4 = x4) := by
  have hb := inB k
  unfold block_Set.f
  rw [insE]
  simp only [Option.bind_some]
  by_cases h0 : i < 0
  · exact ⟨x0, x1, x2, x3, x4, x5, x6, x7, x8, x9, by rw [if_pos h0, block_Set.j0, if_pos rfl], fun _ => rfl, fun _ => rfl, fun _ => rfl, fun _ => rfl, fun _ => rfl⟩
  by_cases hn : i < blkIn k
  rotate_left
  · exact ⟨x0, x1, x2, x3, x4, x5, x6, x7, x8, x9, by rw [if_neg h0, show decide (i ≥ blkIn k) = true from decide_eq_true (by omega), block_Set.j0, if_pos rfl], fun _ => rfl, fun _ => rfl, fun _ => rfl, fun _ => rfl, fun _ => rfl⟩
  rw [if_neg h0, show decide (i ≥ blkIn k) = false from decide_eq_false (by omega), block_Set.j0, if_neg (show ¬ (false = true) by decide), fldE]
  obtain ⟨u, hu⟩ := wrapS (blkField k i).2 v
  simp only [Option.bind_some]
  rw [hu]
  simp only [Option.bind_some]
  rcases small i _ (by omega) hn hb.2 with rfl | rfl | rfl | rfl | rfl
  · exact ⟨u, x1, x2, x3, x4, x5, x6, x7, x8, x9, by simp, fun h => absurd rfl h, fun _ => rfl, fun _ => rfl, fun _ => rfl, fun _ => rfl⟩
  · exact ⟨x0, u, x2, x3, x4, x5, x6, x7, x8, x9, by simp, fun _ => rfl, fun h => absurd rfl h, fun _ => rfl, fun _ => rfl, fun _ => rfl⟩
  · exact ⟨x0, x1, u, x3, x4, x5, x6, x7, x8, x9, by simp, fun _ => rfl, fun _ => rfl, fun h => absurd rfl h, fun _ => rfl, fun _ => rfl⟩
  · exact ⟨x0, x1, x2, u, x4, x5, x6, x7, x8, x9, by simp, fun _ => rfl, fun _ => rfl, fun _ => rfl, fun h => absurd rfl h, fun _ => rfl⟩
  · exact ⟨x0, x1, x2, x3, u, x5, x6, x7, x8, x9, by simp, fun _ => rfl, fun _ => rfl, fun _ => rfl, fun _ => rfl, fun h => absurd rfl h⟩
theorem tA (k : Int) (x : In) (now : Int) : (timerS k x now).a0 = x.a0 ∧ (timerS k x now).a1 = x.a1 := by
  unfold timerS delayS holdS pulseS
  repeat' split
  all_goals exact ⟨rfl, rfl⟩
theorem runK (k now : Int) (x0 x1 x2 x3 x4 x5 x6 x7 x8 x9 : Int) : ∃ y0 y1 y2 y3 y4 y5 y6 y7 y8 y9, block_Run.f k x0 x1 x2 x3 x4 x5 x6 x7 x8 x9 now = some (y0, y1, y2, y3, y4, y5, y6, y7, y8, y9) ∧ (0 < blkIn k → y0 = x0) ∧ (1 < blkIn k → y1 = x1) ∧ (2 < blkIn k → y2 = x2) ∧ (3 < blkIn k → y3 = x3) ∧ (4 < blkIn k → y4 = x4) := by
  have key : ∀ n : Int, blkIn k = n → ∃ y0 y1 y2 y3 y4 y5 y6 y7 y8 y9, block_Run.f k x0 x1 x2 x3 x4 x5 x6 x7 x8 x9 now = some (y0, y1, y2, y3, y4, y5, y6, y7, y8, y9) ∧ (0 < n → y0 = x0) ∧ (1 < n → y1 = x1) ∧ (2 < n → y2 = x2) ∧ (3 < n → y3 = x3) ∧ (4 < n → y4 = x4) := by
    intro n hn
    by_cases h1 : 1 ≤ k ∧ k ≤ 3
    · have hn2 : n = 2 := by
        rcases (by omega : k = 1 ∨ k = 2 ∨ k = 3) with rfl | rfl | rfl <;> exact hn.symm
      have ha := tA k ⟨x0, x1, x2, x3, x4, x5, x6, x7, x8, x9⟩ now
      unfold block_Run.f timer_Is.f
      rw [if_pos (show k ≥ 1 from h1.1), show decide (k ≤ 3) = true from decide_eq_true h1.2]
      exact ⟨_, _, _, _, _, _, _, _, _, _, rfl, fun _ => ha.1, fun _ => ha.2, fun h => absurd h (by omega), fun h => absurd h (by omega), fun h => absurd h (by omega)⟩
    have hA : (if k ≥ 1 then (some (decide (k ≤ 3))) else (some false)) = some false := by
      split
      · rw [show decide (k ≤ 3) = false from decide_eq_false (by omega)]
      · rfl
    unfold block_Run.f timer_Is.f count_Is.f
    rw [hA]
    simp only [Option.bind_some, Bool.false_eq_true, if_false]
    by_cases h4 : 4 ≤ k ∧ k ≤ 6
    · rw [if_pos (show k ≥ 4 from h4.1), show decide (k ≤ 6) = true from decide_eq_true h4.2]
      rcases (by omega : k = 4 ∨ k = 5 ∨ k = 6) with rfl | rfl | rfl
      · obtain rfl : n = 3 := hn.symm
        exact ⟨_, _, _, _, _, _, _, _, _, _, rfl, fun _ => rfl, fun _ => rfl, fun _ => rfl, fun h => absurd h (by decide), fun h => absurd h (by decide)⟩
      · obtain rfl : n = 3 := hn.symm
        exact ⟨_, _, _, _, _, _, _, _, _, _, rfl, fun _ => rfl, fun _ => rfl, fun _ => rfl, fun h => absurd h (by decide), fun h => absurd h (by decide)⟩
      · obtain rfl : n = 5 := hn.symm
        exact ⟨_, _, _, _, _, _, _, _, _, _, rfl, fun _ => rfl, fun _ => rfl, fun _ => rfl, fun _ => rfl, fun _ => rfl⟩
    have hC : (if k ≥ 4 then (some (decide (k ≤ 6))) else (some false)) = some false := by
      split
      · rw [show decide (k ≤ 6) = false from decide_eq_false (by omega)]
      · rfl
    rw [hC]
    simp only [Option.bind_some, Bool.false_eq_true, if_false]
    by_cases h7 : k = 7
    · subst h7
      obtain rfl : n = 1 := hn.symm
      exact ⟨_, _, _, _, _, _, _, _, _, _, rfl, fun _ => rfl, fun h => absurd h (by decide), fun h => absurd h (by decide), fun h => absurd h (by decide), fun h => absurd h (by decide)⟩
    by_cases h8 : k = 8
    · subst h8
      obtain rfl : n = 1 := hn.symm
      exact ⟨_, _, _, _, _, _, _, _, _, _, rfl, fun _ => rfl, fun h => absurd h (by decide), fun h => absurd h (by decide), fun h => absurd h (by decide), fun h => absurd h (by decide)⟩
    have hn0 : n = 0 := by
      rw [← hn]
      simp [blkIn, show ¬ k = 1 by omega, show ¬ k = 2 by omega, show ¬ k = 3 by omega, show ¬ k = 4 by omega, show ¬ k = 5 by omega, show ¬ k = 6 by omega, h7, h8]
    exact ⟨_, _, _, _, _, _, _, _, _, _, rfl, fun h => absurd h (by omega), fun h => absurd h (by omega), fun h => absurd h (by omega), fun h => absurd h (by omega), fun h => absurd h (by omega)⟩
  exact key _ rfl
theorem getK (k : Int) (K : Nat) (i : Int) (x0 x1 x2 x3 x4 x5 x6 x7 x8 x9 : Int) (y0 y1 y2 y3 y4 y5 y6 y7 y8 y9 : Int) (hi : 0 ≤ i ∧ i < blkIn k) (he : (i = 0 → y0 = x0) ∧ (i = 1 → y1 = x1) ∧ (i = 2 → y2 = x2) ∧ (i = 3 → y3 = x3) ∧ (i = 4 → y4 = x4)) : ∃ u, block_Get.f (K + 1) k y0 y1 y2 y3 y4 y5 y6 y7 y8 y9 i = some u ∧ block_Get.f (K + 1) k x0 x1 x2 x3 x4 x5 x6 x7 x8 x9 i = some u := by
  have hb := inB k
  unfold block_Get.f
  have hn0 : ¬ i < 0 := by omega
  simp only [cntE, if_neg hn0, Option.bind_some]
  by_cases hc : i ≥ blkCnt k
  · exact ⟨0, by rw [show decide (i ≥ blkCnt k) = true from decide_eq_true hc, block_Get.j0, if_pos rfl], by rw [show decide (i ≥ blkCnt k) = true from decide_eq_true hc, block_Get.j0, if_pos rfl]⟩
  simp only [show decide (i ≥ blkCnt k) = false from decide_eq_false hc, block_Get.j0, Bool.false_eq_true, if_false, fldE]
  obtain ⟨h0, h1, h2, h3, h4⟩ := he
  simp only [Option.bind_some]
  rcases small i _ hi.1 hi.2 hb.2 with rfl | rfl | rfl | rfl | rfl
  · rw [h0 rfl]
    obtain ⟨u, hu⟩ := wrapS (blkField k 0).2 x0
    refine ⟨u, ?_, ?_⟩ <;> (simp only [ if_true, if_false]; rw [hu]; rfl)
  · rw [h1 rfl]
    obtain ⟨u, hu⟩ := wrapS (blkField k 1).2 x1
    refine ⟨u, ?_, ?_⟩ <;> (simp only [show ((1 : Int) = 0) = False by simp,  if_true, if_false]; rw [hu]; rfl)
  · rw [h2 rfl]
    obtain ⟨u, hu⟩ := wrapS (blkField k 2).2 x2
    refine ⟨u, ?_, ?_⟩ <;> (simp only [show ((2 : Int) = 0) = False by simp, show ((2 : Int) = 1) = False by simp,  if_true, if_false]; rw [hu]; rfl)
  · rw [h3 rfl]
    obtain ⟨u, hu⟩ := wrapS (blkField k 3).2 x3
    refine ⟨u, ?_, ?_⟩ <;> (simp only [show ((3 : Int) = 0) = False by simp, show ((3 : Int) = 1) = False by simp, show ((3 : Int) = 2) = False by simp,  if_true, if_false]; rw [hu]; rfl)
  · rw [h4 rfl]
    obtain ⟨u, hu⟩ := wrapS (blkField k 4).2 x4
    refine ⟨u, ?_, ?_⟩ <;> (simp only [show ((4 : Int) = 0) = False by simp, show ((4 : Int) = 1) = False by simp, show ((4 : Int) = 2) = False by simp, show ((4 : Int) = 3) = False by simp,  if_true, if_false]; rw [hu]; rfl)
theorem step0 (k i v : Int) (K : Nat) (x0 x1 x2 x3 x4 x5 x6 x7 x8 x9 y0 y1 y2 y3 y4 y5 y6 y7 y8 y9 : Int) (hn : 0 < blkIn k) (h : ¬ i = 0 → y0 = x0) : ladderbacklaw11_BlockKeeps.l0 (K + 1) k i v 0 x0 x1 x2 x3 x4 x5 x6 x7 x8 x9 y0 y1 y2 y3 y4 y5 y6 y7 y8 y9 = ladderbacklaw11_BlockKeeps.l0 K k i v 1 x0 x1 x2 x3 x4 x5 x6 x7 x8 x9 y0 y1 y2 y3 y4 y5 y6 y7 y8 y9 := by
  rw [ladderbacklaw11_BlockKeeps.l0, insE]
  simp only [Option.bind_some]
  rw [if_pos hn, show wrap64 ((0 : Int) + 1) = 1 by decide +kernel]
  by_cases hi : (0 : Int) = i
  · rw [if_pos hi]
  · rw [if_neg hi]
    simp only [if_true, if_false]
    rw [if_pos (h (fun e => hi e.symm))]
theorem step1 (k i v : Int) (K : Nat) (x0 x1 x2 x3 x4 x5 x6 x7 x8 x9 y0 y1 y2 y3 y4 y5 y6 y7 y8 y9 : Int) (hn : 1 < blkIn k) (h : ¬ i = 1 → y1 = x1) : ladderbacklaw11_BlockKeeps.l0 (K + 1) k i v 1 x0 x1 x2 x3 x4 x5 x6 x7 x8 x9 y0 y1 y2 y3 y4 y5 y6 y7 y8 y9 = ladderbacklaw11_BlockKeeps.l0 K k i v 2 x0 x1 x2 x3 x4 x5 x6 x7 x8 x9 y0 y1 y2 y3 y4 y5 y6 y7 y8 y9 := by
  rw [ladderbacklaw11_BlockKeeps.l0, insE]
  simp only [Option.bind_some]
  rw [if_pos hn, show wrap64 ((1 : Int) + 1) = 2 by decide +kernel]
  by_cases hi : (1 : Int) = i
  · rw [if_pos hi]
  · rw [if_neg hi]
    simp only [show ((1 : Int) = 0) = False by simp, if_true, if_false]
    rw [if_pos (h (fun e => hi e.symm))]
theorem step2 (k i v : Int) (K : Nat) (x0 x1 x2 x3 x4 x5 x6 x7 x8 x9 y0 y1 y2 y3 y4 y5 y6 y7 y8 y9 : Int) (hn : 2 < blkIn k) (h : ¬ i = 2 → y2 = x2) : ladderbacklaw11_BlockKeeps.l0 (K + 1) k i v 2 x0 x1 x2 x3 x4 x5 x6 x7 x8 x9 y0 y1 y2 y3 y4 y5 y6 y7 y8 y9 = ladderbacklaw11_BlockKeeps.l0 K k i v 3 x0 x1 x2 x3 x4 x5 x6 x7 x8 x9 y0 y1 y2 y3 y4 y5 y6 y7 y8 y9 := by
  rw [ladderbacklaw11_BlockKeeps.l0, insE]
  simp only [Option.bind_some]
  rw [if_pos hn, show wrap64 ((2 : Int) + 1) = 3 by decide +kernel]
  by_cases hi : (2 : Int) = i
  · rw [if_pos hi]
  · rw [if_neg hi]
    simp only [show ((2 : Int) = 0) = False by simp, show ((2 : Int) = 1) = False by simp, if_true, if_false]
    rw [if_pos (h (fun e => hi e.symm))]
theorem step3 (k i v : Int) (K : Nat) (x0 x1 x2 x3 x4 x5 x6 x7 x8 x9 y0 y1 y2 y3 y4 y5 y6 y7 y8 y9 : Int) (hn : 3 < blkIn k) (h : ¬ i = 3 → y3 = x3) : ladderbacklaw11_BlockKeeps.l0 (K + 1) k i v 3 x0 x1 x2 x3 x4 x5 x6 x7 x8 x9 y0 y1 y2 y3 y4 y5 y6 y7 y8 y9 = ladderbacklaw11_BlockKeeps.l0 K k i v 4 x0 x1 x2 x3 x4 x5 x6 x7 x8 x9 y0 y1 y2 y3 y4 y5 y6 y7 y8 y9 := by
  rw [ladderbacklaw11_BlockKeeps.l0, insE]
  simp only [Option.bind_some]
  rw [if_pos hn, show wrap64 ((3 : Int) + 1) = 4 by decide +kernel]
  by_cases hi : (3 : Int) = i
  · rw [if_pos hi]
  · rw [if_neg hi]
    simp only [show ((3 : Int) = 0) = False by simp, show ((3 : Int) = 1) = False by simp, show ((3 : Int) = 2) = False by simp, if_true, if_false]
    rw [if_pos (h (fun e => hi e.symm))]
theorem step4 (k i v : Int) (K : Nat) (x0 x1 x2 x3 x4 x5 x6 x7 x8 x9 y0 y1 y2 y3 y4 y5 y6 y7 y8 y9 : Int) (hn : 4 < blkIn k) (h : ¬ i = 4 → y4 = x4) : ladderbacklaw11_BlockKeeps.l0 (K + 1) k i v 4 x0 x1 x2 x3 x4 x5 x6 x7 x8 x9 y0 y1 y2 y3 y4 y5 y6 y7 y8 y9 = ladderbacklaw11_BlockKeeps.l0 K k i v 5 x0 x1 x2 x3 x4 x5 x6 x7 x8 x9 y0 y1 y2 y3 y4 y5 y6 y7 y8 y9 := by
  rw [ladderbacklaw11_BlockKeeps.l0, insE]
  simp only [Option.bind_some]
  rw [if_pos hn, show wrap64 ((4 : Int) + 1) = 5 by decide +kernel]
  by_cases hi : (4 : Int) = i
  · rw [if_pos hi]
  · rw [if_neg hi]
    simp only [show ((4 : Int) = 0) = False by simp, show ((4 : Int) = 1) = False by simp, show ((4 : Int) = 2) = False by simp, show ((4 : Int) = 3) = False by simp, if_true, if_false]
    rw [if_pos (h (fun e => hi e.symm))]
theorem last (k i v : Int) (K : Nat) (m : Int) (x0 x1 x2 x3 x4 x5 x6 x7 x8 x9 y0 y1 y2 y3 y4 y5 y6 y7 y8 y9 : Int) (hn : ¬ m < blkIn k) (h : 0 ≤ i ∧ i < blkIn k → ∃ u, block_Get.f (K + 1) k y0 y1 y2 y3 y4 y5 y6 y7 y8 y9 i = some u ∧ ∃ p0 p1 p2 p3 p4 p5 p6 p7 p8 p9, block_Set.f (K + 1) k x0 x1 x2 x3 x4 x5 x6 x7 x8 x9 i v = some (p0, p1, p2, p3, p4, p5, p6, p7, p8, p9) ∧ block_Get.f (K + 1) k p0 p1 p2 p3 p4 p5 p6 p7 p8 p9 i = some u) : ladderbacklaw11_BlockKeeps.l0 (K + 1 + 1 + 1) k i v m x0 x1 x2 x3 x4 x5 x6 x7 x8 x9 y0 y1 y2 y3 y4 y5 y6 y7 y8 y9 = some true := by
  have hJ : ∀ b : Bool, (b = true → 0 ≤ i ∧ i < blkIn k) → ladderbacklaw11_BlockKeeps.j1 (K + 1 + 1) k i v b x0 x1 x2 x3 x4 x5 x6 x7 x8 x9 y0 y1 y2 y3 y4 y5 y6 y7 y8 y9 = some true := by
    intro b hb
    rw [ladderbacklaw11_BlockKeeps.j1]
    cases b
    · rw [if_neg (show ¬ (false = true) by decide), awakeT]; rfl
    · obtain ⟨u, h1, p0, p1, p2, p3, p4, p5, p6, p7, p8, p9, h2, h3⟩ := h (hb rfl)
      rw [if_pos rfl, h1, h2]
      simp only [Option.bind_some]
      rw [h3, awakeT]
      simp only [Option.bind_some, if_true]
  rw [ladderbacklaw11_BlockKeeps.l0, insE]
  simp only [Option.bind_some]
  rw [if_neg hn]
  by_cases h0 : i ≥ 0
  · rw [if_pos h0]
    exact hJ _ (fun hb => ⟨h0, of_decide_eq_true hb⟩)
  · rw [if_neg h0]
    exact hJ _ (fun hb => absurd hb (by decide))
theorem setR (k : Int) (K K' : Nat) (x0 x1 x2 x3 x4 x5 x6 x7 x8 x9 i v : Int) : block_Set.f (K + 1) k x0 x1 x2 x3 x4 x5 x6 x7 x8 x9 i v = block_Set.f (K' + 1) k x0 x1 x2 x3 x4 x5 x6 x7 x8 x9 i v := by
  unfold block_Set.f block_Set.j0
  rfl
theorem BlockKeeps : ladderbacklaw11_BlockKeeps.Pure := by
  intro y0_ hk y1_ h1_ y2_ h2_
  obtain ⟨⟨x0, x1, x2, x3, x4, x5, x6, x7, x8, x9⟩⟩ := y1_
  obtain ⟨i, v, now⟩ := y2_
  obtain ⟨p0, p1, p2, p3, p4, p5, p6, p7, p8, p9, hs, g0, g1, g2, g3, g4⟩ := setK y0_ 7 x0 x1 x2 x3 x4 x5 x6 x7 x8 x9 i v
  obtain ⟨y0, y1, y2, y3, y4, y5, y6, y7, y8, y9, hr, r0, r1, r2, r3, r4⟩ := runK y0_ now p0 p1 p2 p3 p4 p5 p6 p7 p8 p9
  refine ⟨8, ?_⟩
  unfold ladderbacklaw11_BlockKeeps.f
  simp only [show (8 : Nat) = 7 + 1 from rfl, hs, hr, Option.bind_some]
  have hb := inB y0_
  have hL : ∀ (K : Nat) (m : Int), ¬ m < blkIn y0_ → ladderbacklaw11_BlockKeeps.l0 (K + 1 + 1 + 1) y0_ i v m x0 x1 x2 x3 x4 x5 x6 x7 x8 x9 y0 y1 y2 y3 y4 y5 y6 y7 y8 y9 = some true := fun K m hm => last y0_ i v K m x0 x1 x2 x3 x4 x5 x6 x7 x8 x9 y0 y1 y2 y3 y4 y5 y6 y7 y8 y9 hm (fun hi => by
    obtain ⟨u, hg1, hg2⟩ := getK y0_ K i p0 p1 p2 p3 p4 p5 p6 p7 p8 p9 y0 y1 y2 y3 y4 y5 y6 y7 y8 y9 hi ⟨fun e => r0 (by omega), fun e => r1 (by omega), fun e => r2 (by omega), fun e => r3 (by omega), fun e => r4 (by omega)⟩
    exact ⟨u, hg1, _, _, _, _, _, _, _, _, _, _, (setR y0_ K 7 x0 x1 x2 x3 x4 x5 x6 x7 x8 x9 i v).trans hs, hg2⟩)
  by_cases n0 : 0 < blkIn y0_
  rotate_left
  · exact hL 5 0 n0
  refine (step0 y0_ i v 7 x0 x1 x2 x3 x4 x5 x6 x7 x8 x9 y0 y1 y2 y3 y4 y5 y6 y7 y8 y9 n0 (fun h => (r0 n0).trans (g0 h))).trans ?_
  by_cases n1 : 1 < blkIn y0_
  rotate_left
  · exact hL 4 1 n1
  refine (step1 y0_ i v 6 x0 x1 x2 x3 x4 x5 x6 x7 x8 x9 y0 y1 y2 y3 y4 y5 y6 y7 y8 y9 n1 (fun h => (r1 n1).trans (g1 h))).trans ?_
  by_cases n2 : 2 < blkIn y0_
  rotate_left
  · exact hL 3 2 n2
  refine (step2 y0_ i v 5 x0 x1 x2 x3 x4 x5 x6 x7 x8 x9 y0 y1 y2 y3 y4 y5 y6 y7 y8 y9 n2 (fun h => (r2 n2).trans (g2 h))).trans ?_
  by_cases n3 : 3 < blkIn y0_
  rotate_left
  · exact hL 2 3 n3
  refine (step3 y0_ i v 4 x0 x1 x2 x3 x4 x5 x6 x7 x8 x9 y0 y1 y2 y3 y4 y5 y6 y7 y8 y9 n3 (fun h => (r3 n3).trans (g3 h))).trans ?_
  by_cases n4 : 4 < blkIn y0_
  rotate_left
  · exact hL 1 4 n4
  refine (step4 y0_ i v 3 x0 x1 x2 x3 x4 x5 x6 x7 x8 x9 y0 y1 y2 y3 y4 y5 y6 y7 y8 y9 n4 (fun h => (r4 n4).trans (g4 h))).trans ?_
  exact hL 0 5 (by omega)
end Go.Proofs.YthldpihpjekleaaDoor.Pure
