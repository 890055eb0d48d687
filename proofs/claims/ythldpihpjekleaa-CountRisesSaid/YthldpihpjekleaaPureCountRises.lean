/- CountRises: called again and again, the counters' counts are how often their inputs rose; plain. No condition. -/
import Derived.Test.YthldpihpjekleaaQCountRisesx
namespace Go.Proofs.Ythldpihpjekleaa.Pure
open Go.Proofs.Ythldpihpjekleaa Go.Proofs.Ythldpihpjekleaa.QCountRises Go.RowKit Go.Proofs.YthldpihpjekleaaW.PrintWords Go.Proofs.YthldpihpjekleaaW.PrintLast Go.Proofs.YthldpihpjekleaaW.PrintMore
set_option linter.unusedSimpArgs false
set_option linter.unusedVariables false
theorem awakeT : ladderbacklaw09_awake.f = some true := by decide +kernel
theorem w64 (x : Int) (h : -1000000 ≤ x ∧ x ≤ 1000000) : wrap64 x = x := Go.IntWalk.wrap64_in x (by omega)
theorem sA00 (q c : Int) (h : 0 ≤ c ∧ c ≤ 1000) : ∃ q2, count_Step.f 4 0 0 0 q c (bi false) 0 0 0 0 = some (0, 0, 0, q2, c, bi false, 0, 0, 0, 0) := by
  have h1 : wrap64 (c + 1) = c + 1 := w64 _ (by omega)
  have h2 : c < 32767 := by omega
  exact ⟨bi (decide (0 ≤ c)), by simp [count_Step.f, countS, ctuS, ctuC, risen, turnS, bi, In.tup, h1, h2]⟩
theorem sB00 (q c : Int) (h : 0 ≤ c ∧ c ≤ 1000) : ∃ q2, count_Step.f 5 0 0 0 q (-c) (bi false) 0 0 0 0 = some (0, 0, 0, q2, -c, bi false, 0, 0, 0, 0) := by
  have h1 : wrap64 (-c - 1) = -(c + 1) := by rw [w64 _ (by omega)]; omega
  have h2 : -32768 < -c := by omega
  exact ⟨bi (decide (-c ≤ 0)), by simp [count_Step.f, countS, ctdS, ctdC, risen, turnS, bi, In.tup, h1, h2]⟩
theorem sA01 (q c : Int) (h : 0 ≤ c ∧ c ≤ 1000) : ∃ q2, count_Step.f 4 0 0 0 q c (bi true) 0 0 0 0 = some (0, 0, 0, q2, c, bi false, 0, 0, 0, 0) := by
  have h1 : wrap64 (c + 1) = c + 1 := w64 _ (by omega)
  have h2 : c < 32767 := by omega
  exact ⟨bi (decide (0 ≤ c)), by simp [count_Step.f, countS, ctuS, ctuC, risen, turnS, bi, In.tup, h1, h2]⟩
theorem sB01 (q c : Int) (h : 0 ≤ c ∧ c ≤ 1000) : ∃ q2, count_Step.f 5 0 0 0 q (-c) (bi true) 0 0 0 0 = some (0, 0, 0, q2, -c, bi false, 0, 0, 0, 0) := by
  have h1 : wrap64 (-c - 1) = -(c + 1) := by rw [w64 _ (by omega)]; omega
  have h2 : -32768 < -c := by omega
  exact ⟨bi (decide (-c ≤ 0)), by simp [count_Step.f, countS, ctdS, ctdC, risen, turnS, bi, In.tup, h1, h2]⟩
theorem sA10 (q c : Int) (h : 0 ≤ c ∧ c ≤ 1000) : ∃ q2, count_Step.f 4 1 0 0 q c (bi false) 0 0 0 0 = some (1, 0, 0, q2, c + 1, bi true, 0, 0, 0, 0) := by
  have h1 : wrap64 (c + 1) = c + 1 := w64 _ (by omega)
  have h2 : c < 32767 := by omega
  exact ⟨bi (decide (0 ≤ c + 1)), by simp [count_Step.f, countS, ctuS, ctuC, risen, turnS, bi, In.tup, h1, h2]⟩
theorem sB10 (q c : Int) (h : 0 ≤ c ∧ c ≤ 1000) : ∃ q2, count_Step.f 5 1 0 0 q (-c) (bi false) 0 0 0 0 = some (1, 0, 0, q2, -(c + 1), bi true, 0, 0, 0, 0) := by
  have h1 : wrap64 (-c - 1) = -(c + 1) := by rw [w64 _ (by omega)]; omega
  have h2 : -32768 < -c := by omega
  exact ⟨bi (decide (-(c + 1) ≤ 0)), by simp [count_Step.f, countS, ctdS, ctdC, risen, turnS, bi, In.tup, h1, h2]⟩
theorem sA11 (q c : Int) (h : 0 ≤ c ∧ c ≤ 1000) : ∃ q2, count_Step.f 4 1 0 0 q c (bi true) 0 0 0 0 = some (1, 0, 0, q2, c, bi true, 0, 0, 0, 0) := by
  have h1 : wrap64 (c + 1) = c + 1 := w64 _ (by omega)
  have h2 : c < 32767 := by omega
  exact ⟨bi (decide (0 ≤ c)), by simp [count_Step.f, countS, ctuS, ctuC, risen, turnS, bi, In.tup, h1, h2]⟩
theorem sB11 (q c : Int) (h : 0 ≤ c ∧ c ≤ 1000) : ∃ q2, count_Step.f 5 1 0 0 q (-c) (bi true) 0 0 0 0 = some (1, 0, 0, q2, -c, bi true, 0, 0, 0, 0) := by
  have h1 : wrap64 (-c - 1) = -(c + 1) := by rw [w64 _ (by omega)]; omega
  have h2 : -32768 < -c := by omega
  exact ⟨bi (decide (-c ≤ 0)), by simp [count_Step.f, countS, ctdS, ctdC, risen, turnS, bi, In.tup, h1, h2]⟩
theorem sC0000 (q5 q6 c : Int) (h : -1000 ≤ c ∧ c ≤ 1000) : ∃ p5 p6, count_Step.f 6 0 0 0 0 0 q5 q6 c (bi false) (bi false) = some (0, 0, 0, 0, 0, p5, p6, c, bi false, bi false) := by
  have h1 : wrap64 (c + 1) = c + 1 := w64 _ (by omega)
  have h3 : wrap64 (c - 1) = c - 1 := w64 _ (by omega)
  have h2 : c < 32767 := by omega
  have h4 : -32768 < c := by omega
  exact ⟨bi (decide (0 ≤ c)), bi (decide (c ≤ 0)), by simp [count_Step.f, countS, ctudS, ctudC, risen, turnS, bi, In.tup, h1, h2, h3, h4]⟩
theorem sC0001 (q5 q6 c : Int) (h : -1000 ≤ c ∧ c ≤ 1000) : ∃ p5 p6, count_Step.f 6 0 0 0 0 0 q5 q6 c (bi false) (bi true) = some (0, 0, 0, 0, 0, p5, p6, c, bi false, bi false) := by
  have h1 : wrap64 (c + 1) = c + 1 := w64 _ (by omega)
  have h3 : wrap64 (c - 1) = c - 1 := w64 _ (by omega)
  have h2 : c < 32767 := by omega
  have h4 : -32768 < c := by omega
  exact ⟨bi (decide (0 ≤ c)), bi (decide (c ≤ 0)), by simp [count_Step.f, countS, ctudS, ctudC, risen, turnS, bi, In.tup, h1, h2, h3, h4]⟩
theorem sC0010 (q5 q6 c : Int) (h : -1000 ≤ c ∧ c ≤ 1000) : ∃ p5 p6, count_Step.f 6 0 0 0 0 0 q5 q6 c (bi true) (bi false) = some (0, 0, 0, 0, 0, p5, p6, c, bi false, bi false) := by
  have h1 : wrap64 (c + 1) = c + 1 := w64 _ (by omega)
  have h3 : wrap64 (c - 1) = c - 1 := w64 _ (by omega)
  have h2 : c < 32767 := by omega
  have h4 : -32768 < c := by omega
  exact ⟨bi (decide (0 ≤ c)), bi (decide (c ≤ 0)), by simp [count_Step.f, countS, ctudS, ctudC, risen, turnS, bi, In.tup, h1, h2, h3, h4]⟩
theorem sC0011 (q5 q6 c : Int) (h : -1000 ≤ c ∧ c ≤ 1000) : ∃ p5 p6, count_Step.f 6 0 0 0 0 0 q5 q6 c (bi true) (bi true) = some (0, 0, 0, 0, 0, p5, p6, c, bi false, bi false) := by
  have h1 : wrap64 (c + 1) = c + 1 := w64 _ (by omega)
  have h3 : wrap64 (c - 1) = c - 1 := w64 _ (by omega)
  have h2 : c < 32767 := by omega
  have h4 : -32768 < c := by omega
  exact ⟨bi (decide (0 ≤ c)), bi (decide (c ≤ 0)), by simp [count_Step.f, countS, ctudS, ctudC, risen, turnS, bi, In.tup, h1, h2, h3, h4]⟩
theorem sC0100 (q5 q6 c : Int) (h : -1000 ≤ c ∧ c ≤ 1000) : ∃ p5 p6, count_Step.f 6 0 1 0 0 0 q5 q6 c (bi false) (bi false) = some (0, 1, 0, 0, 0, p5, p6, c - 1, bi false, bi true) := by
  have h1 : wrap64 (c + 1) = c + 1 := w64 _ (by omega)
  have h3 : wrap64 (c - 1) = c - 1 := w64 _ (by omega)
  have h2 : c < 32767 := by omega
  have h4 : -32768 < c := by omega
  exact ⟨bi (decide (0 ≤ c - 1)), bi (decide (c - 1 ≤ 0)), by simp [count_Step.f, countS, ctudS, ctudC, risen, turnS, bi, In.tup, h1, h2, h3, h4]⟩
theorem sC0101 (q5 q6 c : Int) (h : -1000 ≤ c ∧ c ≤ 1000) : ∃ p5 p6, count_Step.f 6 0 1 0 0 0 q5 q6 c (bi false) (bi true) = some (0, 1, 0, 0, 0, p5, p6, c, bi false, bi true) := by
  have h1 : wrap64 (c + 1) = c + 1 := w64 _ (by omega)
  have h3 : wrap64 (c - 1) = c - 1 := w64 _ (by omega)
  have h2 : c < 32767 := by omega
  have h4 : -32768 < c := by omega
  exact ⟨bi (decide (0 ≤ c)), bi (decide (c ≤ 0)), by simp [count_Step.f, countS, ctudS, ctudC, risen, turnS, bi, In.tup, h1, h2, h3, h4]⟩
theorem sC0110 (q5 q6 c : Int) (h : -1000 ≤ c ∧ c ≤ 1000) : ∃ p5 p6, count_Step.f 6 0 1 0 0 0 q5 q6 c (bi true) (bi false) = some (0, 1, 0, 0, 0, p5, p6, c - 1, bi false, bi true) := by
  have h1 : wrap64 (c + 1) = c + 1 := w64 _ (by omega)
  have h3 : wrap64 (c - 1) = c - 1 := w64 _ (by omega)
  have h2 : c < 32767 := by omega
  have h4 : -32768 < c := by omega
  exact ⟨bi (decide (0 ≤ c - 1)), bi (decide (c - 1 ≤ 0)), by simp [count_Step.f, countS, ctudS, ctudC, risen, turnS, bi, In.tup, h1, h2, h3, h4]⟩
theorem sC0111 (q5 q6 c : Int) (h : -1000 ≤ c ∧ c ≤ 1000) : ∃ p5 p6, count_Step.f 6 0 1 0 0 0 q5 q6 c (bi true) (bi true) = some (0, 1, 0, 0, 0, p5, p6, c, bi false, bi true) := by
  have h1 : wrap64 (c + 1) = c + 1 := w64 _ (by omega)
  have h3 : wrap64 (c - 1) = c - 1 := w64 _ (by omega)
  have h2 : c < 32767 := by omega
  have h4 : -32768 < c := by omega
  exact ⟨bi (decide (0 ≤ c)), bi (decide (c ≤ 0)), by simp [count_Step.f, countS, ctudS, ctudC, risen, turnS, bi, In.tup, h1, h2, h3, h4]⟩
theorem sC1000 (q5 q6 c : Int) (h : -1000 ≤ c ∧ c ≤ 1000) : ∃ p5 p6, count_Step.f 6 1 0 0 0 0 q5 q6 c (bi false) (bi false) = some (1, 0, 0, 0, 0, p5, p6, c + 1, bi true, bi false) := by
  have h1 : wrap64 (c + 1) = c + 1 := w64 _ (by omega)
  have h3 : wrap64 (c - 1) = c - 1 := w64 _ (by omega)
  have h2 : c < 32767 := by omega
  have h4 : -32768 < c := by omega
  exact ⟨bi (decide (0 ≤ c + 1)), bi (decide (c + 1 ≤ 0)), by simp [count_Step.f, countS, ctudS, ctudC, risen, turnS, bi, In.tup, h1, h2, h3, h4]⟩
theorem sC1001 (q5 q6 c : Int) (h : -1000 ≤ c ∧ c ≤ 1000) : ∃ p5 p6, count_Step.f 6 1 0 0 0 0 q5 q6 c (bi false) (bi true) = some (1, 0, 0, 0, 0, p5, p6, c + 1, bi true, bi false) := by
  have h1 : wrap64 (c + 1) = c + 1 := w64 _ (by omega)
  have h3 : wrap64 (c - 1) = c - 1 := w64 _ (by omega)
  have h2 : c < 32767 := by omega
  have h4 : -32768 < c := by omega
  exact ⟨bi (decide (0 ≤ c + 1)), bi (decide (c + 1 ≤ 0)), by simp [count_Step.f, countS, ctudS, ctudC, risen, turnS, bi, In.tup, h1, h2, h3, h4]⟩
theorem sC1010 (q5 q6 c : Int) (h : -1000 ≤ c ∧ c ≤ 1000) : ∃ p5 p6, count_Step.f 6 1 0 0 0 0 q5 q6 c (bi true) (bi false) = some (1, 0, 0, 0, 0, p5, p6, c, bi true, bi false) := by
  have h1 : wrap64 (c + 1) = c + 1 := w64 _ (by omega)
  have h3 : wrap64 (c - 1) = c - 1 := w64 _ (by omega)
  have h2 : c < 32767 := by omega
  have h4 : -32768 < c := by omega
  exact ⟨bi (decide (0 ≤ c)), bi (decide (c ≤ 0)), by simp [count_Step.f, countS, ctudS, ctudC, risen, turnS, bi, In.tup, h1, h2, h3, h4]⟩
theorem sC1011 (q5 q6 c : Int) (h : -1000 ≤ c ∧ c ≤ 1000) : ∃ p5 p6, count_Step.f 6 1 0 0 0 0 q5 q6 c (bi true) (bi true) = some (1, 0, 0, 0, 0, p5, p6, c, bi true, bi false) := by
  have h1 : wrap64 (c + 1) = c + 1 := w64 _ (by omega)
  have h3 : wrap64 (c - 1) = c - 1 := w64 _ (by omega)
  have h2 : c < 32767 := by omega
  have h4 : -32768 < c := by omega
  exact ⟨bi (decide (0 ≤ c)), bi (decide (c ≤ 0)), by simp [count_Step.f, countS, ctudS, ctudC, risen, turnS, bi, In.tup, h1, h2, h3, h4]⟩
theorem sC1100 (q5 q6 c : Int) (h : -1000 ≤ c ∧ c ≤ 1000) : ∃ p5 p6, count_Step.f 6 1 1 0 0 0 q5 q6 c (bi false) (bi false) = some (1, 1, 0, 0, 0, p5, p6, c, bi true, bi true) := by
  have h1 : wrap64 (c + 1) = c + 1 := w64 _ (by omega)
  have h3 : wrap64 (c - 1) = c - 1 := w64 _ (by omega)
  have h2 : c < 32767 := by omega
  have h4 : -32768 < c := by omega
  exact ⟨bi (decide (0 ≤ c)), bi (decide (c ≤ 0)), by simp [count_Step.f, countS, ctudS, ctudC, risen, turnS, bi, In.tup, h1, h2, h3, h4]⟩
theorem sC1101 (q5 q6 c : Int) (h : -1000 ≤ c ∧ c ≤ 1000) : ∃ p5 p6, count_Step.f 6 1 1 0 0 0 q5 q6 c (bi false) (bi true) = some (1, 1, 0, 0, 0, p5, p6, c + 1, bi true, bi true) := by
  have h1 : wrap64 (c + 1) = c + 1 := w64 _ (by omega)
  have h3 : wrap64 (c - 1) = c - 1 := w64 _ (by omega)
  have h2 : c < 32767 := by omega
  have h4 : -32768 < c := by omega
  exact ⟨bi (decide (0 ≤ c + 1)), bi (decide (c + 1 ≤ 0)), by simp [count_Step.f, countS, ctudS, ctudC, risen, turnS, bi, In.tup, h1, h2, h3, h4]⟩
theorem sC1110 (q5 q6 c : Int) (h : -1000 ≤ c ∧ c ≤ 1000) : ∃ p5 p6, count_Step.f 6 1 1 0 0 0 q5 q6 c (bi true) (bi false) = some (1, 1, 0, 0, 0, p5, p6, c - 1, bi true, bi true) := by
  have h1 : wrap64 (c + 1) = c + 1 := w64 _ (by omega)
  have h3 : wrap64 (c - 1) = c - 1 := w64 _ (by omega)
  have h2 : c < 32767 := by omega
  have h4 : -32768 < c := by omega
  exact ⟨bi (decide (0 ≤ c - 1)), bi (decide (c - 1 ≤ 0)), by simp [count_Step.f, countS, ctudS, ctudC, risen, turnS, bi, In.tup, h1, h2, h3, h4]⟩
theorem sC1111 (q5 q6 c : Int) (h : -1000 ≤ c ∧ c ≤ 1000) : ∃ p5 p6, count_Step.f 6 1 1 0 0 0 q5 q6 c (bi true) (bi true) = some (1, 1, 0, 0, 0, p5, p6, c, bi true, bi true) := by
  have h1 : wrap64 (c + 1) = c + 1 := w64 _ (by omega)
  have h3 : wrap64 (c - 1) = c - 1 := w64 _ (by omega)
  have h2 : c < 32767 := by omega
  have h4 : -32768 < c := by omega
  exact ⟨bi (decide (0 ≤ c)), bi (decide (c ≤ 0)), by simp [count_Step.f, countS, ctudS, ctudC, risen, turnS, bi, In.tup, h1, h2, h3, h4]⟩
set_option maxHeartbeats 4000000 in
theorem loopT (L : List S27) (hlen : L.length ≤ 100) : ∀ d i, i + d = L.length → ∀ k, 9 * d + 1 ≤ k → ∀ (up down both fa qa fb qb f0 f1 q5 q6 : Int) (w0 w1 : Bool), 0 ≤ up ∧ up ≤ i → 0 ≤ down ∧ down ≤ i → -i ≤ both ∧ both ≤ i →
    ladderbacklaw09_CountRises.l0 k L up down both i fa 0 0 qa up (bi w0) 0 0 0 0 fb 0 0 qb (-down) (bi w1) 0 0 0 0 f0 f1 0 0 0 q5 q6 both (bi w0) (bi w1) w0 w1 = some true
  | 0, i, hi, k, hk, up, down, both, fa, qa, fb, qb, f0, f1, q5, q6, w0, w1, _, _, _ => by
    obtain ⟨k, rfl⟩ : ∃ k', k = k' + 1 := ⟨k - 1, by omega⟩
    rw [ladderbacklaw09_CountRises.l0, if_neg (by omega), awakeT]
    rfl
  | d + 1, i, hi, k, hk, up, down, both, fa, qa, fb, qb, f0, f1, q5, q6, w0, w1, h1, h2, h3 => by
    obtain ⟨k, rfl⟩ : ∃ k', k = k' + 1 + 1 + 1 + 1 + 1 + 1 + 1 + 1 + 1 := ⟨k - 9, by omega⟩
    have hlt : (i : Int) < (L.length : Int) := by omega
    have h0 : (0 : Int) ≤ (i : Int) := by omega
    rcases hr : rd_T27 L (i : Int) with ⟨o0, o1⟩
    have hU : wrap64 (up + 1) = up + 1 := w64 _ (by omega)
    have hD : wrap64 (down + 1) = down + 1 := w64 _ (by omega)
    have hM : wrap64 (-(down + 1)) = -(down + 1) := w64 _ (by omega)
    have hM' : wrap64 (-down) = -down := w64 _ (by omega)
    have hB : wrap64 (both + 1) = both + 1 := w64 _ (by omega)
    have hC : wrap64 (both - 1) = both - 1 := w64 _ (by omega)
    have hI1 : wrap64 ((i : Int) + 1) = ((i + 1 : Nat) : Int) := by rw [w64 _ (by omega)]; omega
    have ih := loopT L hlen d (i + 1) (by omega) k (by omega)
    cases o0 <;> cases o1 <;> cases w0 <;> cases w1
    · obtain ⟨qa2, hA⟩ := sA00 qa up (by clear hU hD hM hM' hB hC hI1 ih; (try clear hA); (try clear hBB); (try clear hCC); omega)
      obtain ⟨qb2, hBB⟩ := sB00 qb down (by clear hU hD hM hM' hB hC hI1 ih; (try clear hA); (try clear hBB); (try clear hCC); omega)
      obtain ⟨p5, p6, hCC⟩ := sC0000 q5 q6 both (by clear hU hD hM hM' hB hC hI1 ih; (try clear hA); (try clear hBB); (try clear hCC); omega)
      simp only [ladderbacklaw09_CountRises.l0, ladderbacklaw09_CountRises.j1, ladderbacklaw09_CountRises.j2, ladderbacklaw09_CountRises.j3, ladderbacklaw09_CountRises.j4, ladderbacklaw09_CountRises.j5, ladderbacklaw09_CountRises.j6, ladderbacklaw09_CountRises.j7, ladderbacklaw09_CountRises.j8, hr, hU, hD, hM, hM', hB, hC, hI1, if_pos hlt, if_pos h0, if_true, Bool.false_eq_true, if_false, Bool.not_false, Bool.not_true, Option.bind_some, hA, hBB, hCC]
      exact ih _ _ _ _ _ _ _ _ _ _ _ _ _ (by clear hU hD hM hM' hB hC hI1 ih; (try clear hA); (try clear hBB); (try clear hCC); omega) (by clear hU hD hM hM' hB hC hI1 ih; (try clear hA); (try clear hBB); (try clear hCC); omega) (by clear hU hD hM hM' hB hC hI1 ih; (try clear hA); (try clear hBB); (try clear hCC); omega)
    · obtain ⟨qa2, hA⟩ := sA00 qa up (by clear hU hD hM hM' hB hC hI1 ih; (try clear hA); (try clear hBB); (try clear hCC); omega)
      obtain ⟨qb2, hBB⟩ := sB01 qb down (by clear hU hD hM hM' hB hC hI1 ih; (try clear hA); (try clear hBB); (try clear hCC); omega)
      obtain ⟨p5, p6, hCC⟩ := sC0001 q5 q6 both (by clear hU hD hM hM' hB hC hI1 ih; (try clear hA); (try clear hBB); (try clear hCC); omega)
      simp only [ladderbacklaw09_CountRises.l0, ladderbacklaw09_CountRises.j1, ladderbacklaw09_CountRises.j2, ladderbacklaw09_CountRises.j3, ladderbacklaw09_CountRises.j4, ladderbacklaw09_CountRises.j5, ladderbacklaw09_CountRises.j6, ladderbacklaw09_CountRises.j7, ladderbacklaw09_CountRises.j8, hr, hU, hD, hM, hM', hB, hC, hI1, if_pos hlt, if_pos h0, if_true, Bool.false_eq_true, if_false, Bool.not_false, Bool.not_true, Option.bind_some, hA, hBB, hCC]
      exact ih _ _ _ _ _ _ _ _ _ _ _ _ _ (by clear hU hD hM hM' hB hC hI1 ih; (try clear hA); (try clear hBB); (try clear hCC); omega) (by clear hU hD hM hM' hB hC hI1 ih; (try clear hA); (try clear hBB); (try clear hCC); omega) (by clear hU hD hM hM' hB hC hI1 ih; (try clear hA); (try clear hBB); (try clear hCC); omega)
    · obtain ⟨qa2, hA⟩ := sA01 qa up (by clear hU hD hM hM' hB hC hI1 ih; (try clear hA); (try clear hBB); (try clear hCC); omega)
      obtain ⟨qb2, hBB⟩ := sB00 qb down (by clear hU hD hM hM' hB hC hI1 ih; (try clear hA); (try clear hBB); (try clear hCC); omega)
      obtain ⟨p5, p6, hCC⟩ := sC0010 q5 q6 both (by clear hU hD hM hM' hB hC hI1 ih; (try clear hA); (try clear hBB); (try clear hCC); omega)
      simp only [ladderbacklaw09_CountRises.l0, ladderbacklaw09_CountRises.j1, ladderbacklaw09_CountRises.j2, ladderbacklaw09_CountRises.j3, ladderbacklaw09_CountRises.j4, ladderbacklaw09_CountRises.j5, ladderbacklaw09_CountRises.j6, ladderbacklaw09_CountRises.j7, ladderbacklaw09_CountRises.j8, hr, hU, hD, hM, hM', hB, hC, hI1, if_pos hlt, if_pos h0, if_true, Bool.false_eq_true, if_false, Bool.not_false, Bool.not_true, Option.bind_some, hA, hBB, hCC]
      exact ih _ _ _ _ _ _ _ _ _ _ _ _ _ (by clear hU hD hM hM' hB hC hI1 ih; (try clear hA); (try clear hBB); (try clear hCC); omega) (by clear hU hD hM hM' hB hC hI1 ih; (try clear hA); (try clear hBB); (try clear hCC); omega) (by clear hU hD hM hM' hB hC hI1 ih; (try clear hA); (try clear hBB); (try clear hCC); omega)
    · obtain ⟨qa2, hA⟩ := sA01 qa up (by clear hU hD hM hM' hB hC hI1 ih; (try clear hA); (try clear hBB); (try clear hCC); omega)
      obtain ⟨qb2, hBB⟩ := sB01 qb down (by clear hU hD hM hM' hB hC hI1 ih; (try clear hA); (try clear hBB); (try clear hCC); omega)
      obtain ⟨p5, p6, hCC⟩ := sC0011 q5 q6 both (by clear hU hD hM hM' hB hC hI1 ih; (try clear hA); (try clear hBB); (try clear hCC); omega)
      simp only [ladderbacklaw09_CountRises.l0, ladderbacklaw09_CountRises.j1, ladderbacklaw09_CountRises.j2, ladderbacklaw09_CountRises.j3, ladderbacklaw09_CountRises.j4, ladderbacklaw09_CountRises.j5, ladderbacklaw09_CountRises.j6, ladderbacklaw09_CountRises.j7, ladderbacklaw09_CountRises.j8, hr, hU, hD, hM, hM', hB, hC, hI1, if_pos hlt, if_pos h0, if_true, Bool.false_eq_true, if_false, Bool.not_false, Bool.not_true, Option.bind_some, hA, hBB, hCC]
      exact ih _ _ _ _ _ _ _ _ _ _ _ _ _ (by clear hU hD hM hM' hB hC hI1 ih; (try clear hA); (try clear hBB); (try clear hCC); omega) (by clear hU hD hM hM' hB hC hI1 ih; (try clear hA); (try clear hBB); (try clear hCC); omega) (by clear hU hD hM hM' hB hC hI1 ih; (try clear hA); (try clear hBB); (try clear hCC); omega)
    · obtain ⟨qa2, hA⟩ := sA00 qa up (by clear hU hD hM hM' hB hC hI1 ih; (try clear hA); (try clear hBB); (try clear hCC); omega)
      obtain ⟨qb2, hBB⟩ := sB10 qb down (by clear hU hD hM hM' hB hC hI1 ih; (try clear hA); (try clear hBB); (try clear hCC); omega)
      obtain ⟨p5, p6, hCC⟩ := sC0100 q5 q6 both (by clear hU hD hM hM' hB hC hI1 ih; (try clear hA); (try clear hBB); (try clear hCC); omega)
      simp only [ladderbacklaw09_CountRises.l0, ladderbacklaw09_CountRises.j1, ladderbacklaw09_CountRises.j2, ladderbacklaw09_CountRises.j3, ladderbacklaw09_CountRises.j4, ladderbacklaw09_CountRises.j5, ladderbacklaw09_CountRises.j6, ladderbacklaw09_CountRises.j7, ladderbacklaw09_CountRises.j8, hr, hU, hD, hM, hM', hB, hC, hI1, if_pos hlt, if_pos h0, if_true, Bool.false_eq_true, if_false, Bool.not_false, Bool.not_true, Option.bind_some, hA, hBB, hCC]
      exact ih _ _ _ _ _ _ _ _ _ _ _ _ _ (by clear hU hD hM hM' hB hC hI1 ih; (try clear hA); (try clear hBB); (try clear hCC); omega) (by clear hU hD hM hM' hB hC hI1 ih; (try clear hA); (try clear hBB); (try clear hCC); omega) (by clear hU hD hM hM' hB hC hI1 ih; (try clear hA); (try clear hBB); (try clear hCC); omega)
    · obtain ⟨qa2, hA⟩ := sA00 qa up (by clear hU hD hM hM' hB hC hI1 ih; (try clear hA); (try clear hBB); (try clear hCC); omega)
      obtain ⟨qb2, hBB⟩ := sB11 qb down (by clear hU hD hM hM' hB hC hI1 ih; (try clear hA); (try clear hBB); (try clear hCC); omega)
      obtain ⟨p5, p6, hCC⟩ := sC0101 q5 q6 both (by clear hU hD hM hM' hB hC hI1 ih; (try clear hA); (try clear hBB); (try clear hCC); omega)
      simp only [ladderbacklaw09_CountRises.l0, ladderbacklaw09_CountRises.j1, ladderbacklaw09_CountRises.j2, ladderbacklaw09_CountRises.j3, ladderbacklaw09_CountRises.j4, ladderbacklaw09_CountRises.j5, ladderbacklaw09_CountRises.j6, ladderbacklaw09_CountRises.j7, ladderbacklaw09_CountRises.j8, hr, hU, hD, hM, hM', hB, hC, hI1, if_pos hlt, if_pos h0, if_true, Bool.false_eq_true, if_false, Bool.not_false, Bool.not_true, Option.bind_some, hA, hBB, hCC]
      exact ih _ _ _ _ _ _ _ _ _ _ _ _ _ (by clear hU hD hM hM' hB hC hI1 ih; (try clear hA); (try clear hBB); (try clear hCC); omega) (by clear hU hD hM hM' hB hC hI1 ih; (try clear hA); (try clear hBB); (try clear hCC); omega) (by clear hU hD hM hM' hB hC hI1 ih; (try clear hA); (try clear hBB); (try clear hCC); omega)
    · obtain ⟨qa2, hA⟩ := sA01 qa up (by clear hU hD hM hM' hB hC hI1 ih; (try clear hA); (try clear hBB); (try clear hCC); omega)
      obtain ⟨qb2, hBB⟩ := sB10 qb down (by clear hU hD hM hM' hB hC hI1 ih; (try clear hA); (try clear hBB); (try clear hCC); omega)
      obtain ⟨p5, p6, hCC⟩ := sC0110 q5 q6 both (by clear hU hD hM hM' hB hC hI1 ih; (try clear hA); (try clear hBB); (try clear hCC); omega)
      simp only [ladderbacklaw09_CountRises.l0, ladderbacklaw09_CountRises.j1, ladderbacklaw09_CountRises.j2, ladderbacklaw09_CountRises.j3, ladderbacklaw09_CountRises.j4, ladderbacklaw09_CountRises.j5, ladderbacklaw09_CountRises.j6, ladderbacklaw09_CountRises.j7, ladderbacklaw09_CountRises.j8, hr, hU, hD, hM, hM', hB, hC, hI1, if_pos hlt, if_pos h0, if_true, Bool.false_eq_true, if_false, Bool.not_false, Bool.not_true, Option.bind_some, hA, hBB, hCC]
      exact ih _ _ _ _ _ _ _ _ _ _ _ _ _ (by clear hU hD hM hM' hB hC hI1 ih; (try clear hA); (try clear hBB); (try clear hCC); omega) (by clear hU hD hM hM' hB hC hI1 ih; (try clear hA); (try clear hBB); (try clear hCC); omega) (by clear hU hD hM hM' hB hC hI1 ih; (try clear hA); (try clear hBB); (try clear hCC); omega)
    · obtain ⟨qa2, hA⟩ := sA01 qa up (by clear hU hD hM hM' hB hC hI1 ih; (try clear hA); (try clear hBB); (try clear hCC); omega)
      obtain ⟨qb2, hBB⟩ := sB11 qb down (by clear hU hD hM hM' hB hC hI1 ih; (try clear hA); (try clear hBB); (try clear hCC); omega)
      obtain ⟨p5, p6, hCC⟩ := sC0111 q5 q6 both (by clear hU hD hM hM' hB hC hI1 ih; (try clear hA); (try clear hBB); (try clear hCC); omega)
      simp only [ladderbacklaw09_CountRises.l0, ladderbacklaw09_CountRises.j1, ladderbacklaw09_CountRises.j2, ladderbacklaw09_CountRises.j3, ladderbacklaw09_CountRises.j4, ladderbacklaw09_CountRises.j5, ladderbacklaw09_CountRises.j6, ladderbacklaw09_CountRises.j7, ladderbacklaw09_CountRises.j8, hr, hU, hD, hM, hM', hB, hC, hI1, if_pos hlt, if_pos h0, if_true, Bool.false_eq_true, if_false, Bool.not_false, Bool.not_true, Option.bind_some, hA, hBB, hCC]
      exact ih _ _ _ _ _ _ _ _ _ _ _ _ _ (by clear hU hD hM hM' hB hC hI1 ih; (try clear hA); (try clear hBB); (try clear hCC); omega) (by clear hU hD hM hM' hB hC hI1 ih; (try clear hA); (try clear hBB); (try clear hCC); omega) (by clear hU hD hM hM' hB hC hI1 ih; (try clear hA); (try clear hBB); (try clear hCC); omega)
    · obtain ⟨qa2, hA⟩ := sA10 qa up (by clear hU hD hM hM' hB hC hI1 ih; (try clear hA); (try clear hBB); (try clear hCC); omega)
      obtain ⟨qb2, hBB⟩ := sB00 qb down (by clear hU hD hM hM' hB hC hI1 ih; (try clear hA); (try clear hBB); (try clear hCC); omega)
      obtain ⟨p5, p6, hCC⟩ := sC1000 q5 q6 both (by clear hU hD hM hM' hB hC hI1 ih; (try clear hA); (try clear hBB); (try clear hCC); omega)
      simp only [ladderbacklaw09_CountRises.l0, ladderbacklaw09_CountRises.j1, ladderbacklaw09_CountRises.j2, ladderbacklaw09_CountRises.j3, ladderbacklaw09_CountRises.j4, ladderbacklaw09_CountRises.j5, ladderbacklaw09_CountRises.j6, ladderbacklaw09_CountRises.j7, ladderbacklaw09_CountRises.j8, hr, hU, hD, hM, hM', hB, hC, hI1, if_pos hlt, if_pos h0, if_true, Bool.false_eq_true, if_false, Bool.not_false, Bool.not_true, Option.bind_some, hA, hBB, hCC]
      exact ih _ _ _ _ _ _ _ _ _ _ _ _ _ (by clear hU hD hM hM' hB hC hI1 ih; (try clear hA); (try clear hBB); (try clear hCC); omega) (by clear hU hD hM hM' hB hC hI1 ih; (try clear hA); (try clear hBB); (try clear hCC); omega) (by clear hU hD hM hM' hB hC hI1 ih; (try clear hA); (try clear hBB); (try clear hCC); omega)
    · obtain ⟨qa2, hA⟩ := sA10 qa up (by clear hU hD hM hM' hB hC hI1 ih; (try clear hA); (try clear hBB); (try clear hCC); omega)
      obtain ⟨qb2, hBB⟩ := sB01 qb down (by clear hU hD hM hM' hB hC hI1 ih; (try clear hA); (try clear hBB); (try clear hCC); omega)
      obtain ⟨p5, p6, hCC⟩ := sC1001 q5 q6 both (by clear hU hD hM hM' hB hC hI1 ih; (try clear hA); (try clear hBB); (try clear hCC); omega)
      simp only [ladderbacklaw09_CountRises.l0, ladderbacklaw09_CountRises.j1, ladderbacklaw09_CountRises.j2, ladderbacklaw09_CountRises.j3, ladderbacklaw09_CountRises.j4, ladderbacklaw09_CountRises.j5, ladderbacklaw09_CountRises.j6, ladderbacklaw09_CountRises.j7, ladderbacklaw09_CountRises.j8, hr, hU, hD, hM, hM', hB, hC, hI1, if_pos hlt, if_pos h0, if_true, Bool.false_eq_true, if_false, Bool.not_false, Bool.not_true, Option.bind_some, hA, hBB, hCC]
      exact ih _ _ _ _ _ _ _ _ _ _ _ _ _ (by clear hU hD hM hM' hB hC hI1 ih; (try clear hA); (try clear hBB); (try clear hCC); omega) (by clear hU hD hM hM' hB hC hI1 ih; (try clear hA); (try clear hBB); (try clear hCC); omega) (by clear hU hD hM hM' hB hC hI1 ih; (try clear hA); (try clear hBB); (try clear hCC); omega)
    · obtain ⟨qa2, hA⟩ := sA11 qa up (by clear hU hD hM hM' hB hC hI1 ih; (try clear hA); (try clear hBB); (try clear hCC); omega)
      obtain ⟨qb2, hBB⟩ := sB00 qb down (by clear hU hD hM hM' hB hC hI1 ih; (try clear hA); (try clear hBB); (try clear hCC); omega)
      obtain ⟨p5, p6, hCC⟩ := sC1010 q5 q6 both (by clear hU hD hM hM' hB hC hI1 ih; (try clear hA); (try clear hBB); (try clear hCC); omega)
      simp only [ladderbacklaw09_CountRises.l0, ladderbacklaw09_CountRises.j1, ladderbacklaw09_CountRises.j2, ladderbacklaw09_CountRises.j3, ladderbacklaw09_CountRises.j4, ladderbacklaw09_CountRises.j5, ladderbacklaw09_CountRises.j6, ladderbacklaw09_CountRises.j7, ladderbacklaw09_CountRises.j8, hr, hU, hD, hM, hM', hB, hC, hI1, if_pos hlt, if_pos h0, if_true, Bool.false_eq_true, if_false, Bool.not_false, Bool.not_true, Option.bind_some, hA, hBB, hCC]
      exact ih _ _ _ _ _ _ _ _ _ _ _ _ _ (by clear hU hD hM hM' hB hC hI1 ih; (try clear hA); (try clear hBB); (try clear hCC); omega) (by clear hU hD hM hM' hB hC hI1 ih; (try clear hA); (try clear hBB); (try clear hCC); omega) (by clear hU hD hM hM' hB hC hI1 ih; (try clear hA); (try clear hBB); (try clear hCC); omega)
    · obtain ⟨qa2, hA⟩ := sA11 qa up (by clear hU hD hM hM' hB hC hI1 ih; (try clear hA); (try clear hBB); (try clear hCC); omega)
      obtain ⟨qb2, hBB⟩ := sB01 qb down (by clear hU hD hM hM' hB hC hI1 ih; (try clear hA); (try clear hBB); (try clear hCC); omega)
      obtain ⟨p5, p6, hCC⟩ := sC1011 q5 q6 both (by clear hU hD hM hM' hB hC hI1 ih; (try clear hA); (try clear hBB); (try clear hCC); omega)
      simp only [ladderbacklaw09_CountRises.l0, ladderbacklaw09_CountRises.j1, ladderbacklaw09_CountRises.j2, ladderbacklaw09_CountRises.j3, ladderbacklaw09_CountRises.j4, ladderbacklaw09_CountRises.j5, ladderbacklaw09_CountRises.j6, ladderbacklaw09_CountRises.j7, ladderbacklaw09_CountRises.j8, hr, hU, hD, hM, hM', hB, hC, hI1, if_pos hlt, if_pos h0, if_true, Bool.false_eq_true, if_false, Bool.not_false, Bool.not_true, Option.bind_some, hA, hBB, hCC]
      exact ih _ _ _ _ _ _ _ _ _ _ _ _ _ (by clear hU hD hM hM' hB hC hI1 ih; (try clear hA); (try clear hBB); (try clear hCC); omega) (by clear hU hD hM hM' hB hC hI1 ih; (try clear hA); (try clear hBB); (try clear hCC); omega) (by clear hU hD hM hM' hB hC hI1 ih; (try clear hA); (try clear hBB); (try clear hCC); omega)
    · obtain ⟨qa2, hA⟩ := sA10 qa up (by clear hU hD hM hM' hB hC hI1 ih; (try clear hA); (try clear hBB); (try clear hCC); omega)
      obtain ⟨qb2, hBB⟩ := sB10 qb down (by clear hU hD hM hM' hB hC hI1 ih; (try clear hA); (try clear hBB); (try clear hCC); omega)
      obtain ⟨p5, p6, hCC⟩ := sC1100 q5 q6 both (by clear hU hD hM hM' hB hC hI1 ih; (try clear hA); (try clear hBB); (try clear hCC); omega)
      simp only [ladderbacklaw09_CountRises.l0, ladderbacklaw09_CountRises.j1, ladderbacklaw09_CountRises.j2, ladderbacklaw09_CountRises.j3, ladderbacklaw09_CountRises.j4, ladderbacklaw09_CountRises.j5, ladderbacklaw09_CountRises.j6, ladderbacklaw09_CountRises.j7, ladderbacklaw09_CountRises.j8, hr, hU, hD, hM, hM', hB, hC, hI1, if_pos hlt, if_pos h0, if_true, Bool.false_eq_true, if_false, Bool.not_false, Bool.not_true, Option.bind_some, hA, hBB, hCC]
      exact ih _ _ _ _ _ _ _ _ _ _ _ _ _ (by clear hU hD hM hM' hB hC hI1 ih; (try clear hA); (try clear hBB); (try clear hCC); omega) (by clear hU hD hM hM' hB hC hI1 ih; (try clear hA); (try clear hBB); (try clear hCC); omega) (by clear hU hD hM hM' hB hC hI1 ih; (try clear hA); (try clear hBB); (try clear hCC); omega)
    · obtain ⟨qa2, hA⟩ := sA10 qa up (by clear hU hD hM hM' hB hC hI1 ih; (try clear hA); (try clear hBB); (try clear hCC); omega)
      obtain ⟨qb2, hBB⟩ := sB11 qb down (by clear hU hD hM hM' hB hC hI1 ih; (try clear hA); (try clear hBB); (try clear hCC); omega)
      obtain ⟨p5, p6, hCC⟩ := sC1101 q5 q6 both (by clear hU hD hM hM' hB hC hI1 ih; (try clear hA); (try clear hBB); (try clear hCC); omega)
      simp only [ladderbacklaw09_CountRises.l0, ladderbacklaw09_CountRises.j1, ladderbacklaw09_CountRises.j2, ladderbacklaw09_CountRises.j3, ladderbacklaw09_CountRises.j4, ladderbacklaw09_CountRises.j5, ladderbacklaw09_CountRises.j6, ladderbacklaw09_CountRises.j7, ladderbacklaw09_CountRises.j8, hr, hU, hD, hM, hM', hB, hC, hI1, if_pos hlt, if_pos h0, if_true, Bool.false_eq_true, if_false, Bool.not_false, Bool.not_true, Option.bind_some, hA, hBB, hCC]
      exact ih _ _ _ _ _ _ _ _ _ _ _ _ _ (by clear hU hD hM hM' hB hC hI1 ih; (try clear hA); (try clear hBB); (try clear hCC); omega) (by clear hU hD hM hM' hB hC hI1 ih; (try clear hA); (try clear hBB); (try clear hCC); omega) (by clear hU hD hM hM' hB hC hI1 ih; (try clear hA); (try clear hBB); (try clear hCC); omega)
    · obtain ⟨qa2, hA⟩ := sA11 qa up (by clear hU hD hM hM' hB hC hI1 ih; (try clear hA); (try clear hBB); (try clear hCC); omega)
      obtain ⟨qb2, hBB⟩ := sB10 qb down (by clear hU hD hM hM' hB hC hI1 ih; (try clear hA); (try clear hBB); (try clear hCC); omega)
      obtain ⟨p5, p6, hCC⟩ := sC1110 q5 q6 both (by clear hU hD hM hM' hB hC hI1 ih; (try clear hA); (try clear hBB); (try clear hCC); omega)
      simp only [ladderbacklaw09_CountRises.l0, ladderbacklaw09_CountRises.j1, ladderbacklaw09_CountRises.j2, ladderbacklaw09_CountRises.j3, ladderbacklaw09_CountRises.j4, ladderbacklaw09_CountRises.j5, ladderbacklaw09_CountRises.j6, ladderbacklaw09_CountRises.j7, ladderbacklaw09_CountRises.j8, hr, hU, hD, hM, hM', hB, hC, hI1, if_pos hlt, if_pos h0, if_true, Bool.false_eq_true, if_false, Bool.not_false, Bool.not_true, Option.bind_some, hA, hBB, hCC]
      exact ih _ _ _ _ _ _ _ _ _ _ _ _ _ (by clear hU hD hM hM' hB hC hI1 ih; (try clear hA); (try clear hBB); (try clear hCC); omega) (by clear hU hD hM hM' hB hC hI1 ih; (try clear hA); (try clear hBB); (try clear hCC); omega) (by clear hU hD hM hM' hB hC hI1 ih; (try clear hA); (try clear hBB); (try clear hCC); omega)
    · obtain ⟨qa2, hA⟩ := sA11 qa up (by clear hU hD hM hM' hB hC hI1 ih; (try clear hA); (try clear hBB); (try clear hCC); omega)
      obtain ⟨qb2, hBB⟩ := sB11 qb down (by clear hU hD hM hM' hB hC hI1 ih; (try clear hA); (try clear hBB); (try clear hCC); omega)
      obtain ⟨p5, p6, hCC⟩ := sC1111 q5 q6 both (by clear hU hD hM hM' hB hC hI1 ih; (try clear hA); (try clear hBB); (try clear hCC); omega)
      simp only [ladderbacklaw09_CountRises.l0, ladderbacklaw09_CountRises.j1, ladderbacklaw09_CountRises.j2, ladderbacklaw09_CountRises.j3, ladderbacklaw09_CountRises.j4, ladderbacklaw09_CountRises.j5, ladderbacklaw09_CountRises.j6, ladderbacklaw09_CountRises.j7, ladderbacklaw09_CountRises.j8, hr, hU, hD, hM, hM', hB, hC, hI1, if_pos hlt, if_pos h0, if_true, Bool.false_eq_true, if_false, Bool.not_false, Bool.not_true, Option.bind_some, hA, hBB, hCC]
      exact ih _ _ _ _ _ _ _ _ _ _ _ _ _ (by clear hU hD hM hM' hB hC hI1 ih; (try clear hA); (try clear hBB); (try clear hCC); omega) (by clear hU hD hM hM' hB hC hI1 ih; (try clear hA); (try clear hBB); (try clear hCC); omega) (by clear hU hD hM hM' hB hC hI1 ih; (try clear hA); (try clear hBB); (try clear hCC); omega)
theorem CountRises : ladderbacklaw09_CountRises.Pure := by
  intro y0 hy
  refine ⟨9 * y0.length + 1, ?_⟩
  unfold ladderbacklaw09_CountRises.f
  by_cases h : (y0.length : Int) > 100
  · rw [if_pos h, awakeT]; rfl
  · rw [if_neg h]
    exact loopT y0 (by omega) y0.length 0 (by omega) _ (Nat.le_refl _) 0 0 0 0 0 0 0 0 0 0 0 false false (by omega) (by omega) (by omega)
end Go.Proofs.Ythldpihpjekleaa.Pure
