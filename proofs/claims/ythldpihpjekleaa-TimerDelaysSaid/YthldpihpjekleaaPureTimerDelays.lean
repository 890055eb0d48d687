/- TimerDelays: the on- and the off-delay's outputs, called again and again, are what the law reckons; plain. No condition. -/
import Derived.Test.YthldpihpjekleaaQTimerDelaysx
namespace Go.Proofs.Ythldpihpjekleaa.Pure
open Go.Proofs.Ythldpihpjekleaa Go.Proofs.Ythldpihpjekleaa.QTimerDelays Go.RowKit Go.Proofs.YthldpihpjekleaaW.PrintWords Go.Proofs.YthldpihpjekleaaW.PrintLast Go.Proofs.YthldpihpjekleaaW.PrintMore
set_option linter.unusedSimpArgs false
set_option linter.unusedVariables false
theorem awakeT : ladderbacklaw08_awake.f = some true := by decide +kernel
theorem w64 (x : Int) (h : -1000000 ≤ x ∧ x ≤ 1000000) : wrap64 x = x := Go.IntWalk.wrap64_in x (by omega)
theorem hdS (n : Int) (h : 0 ≤ n) (h' : n ≤ 1000000) : hd n = n := by
  unfold hd imax imin
  rw [if_neg (show ¬ (1099511627776 : Int) < n by omega)]
  by_cases h0 : (0 : Int) < n
  · rw [if_pos h0]
  · rw [if_neg h0]; omega
theorem longE (s n : Int) (h : 0 ≤ s) (h1 : s ≤ n) (h2 : n ≤ 1000000) : longS s n = n - s := by
  unfold longS imax
  rw [hdS s h (by omega), hdS n (by omega) h2]
  split <;> omega
theorem ptE (p : Int) (h : 0 ≤ p) : ptS p = p := by
  unfold ptS imax
  split <;> omega
theorem dueE (p s n : Int) (hp : 0 ≤ p) (h : 0 ≤ s) (h1 : s ≤ n) (h2 : n ≤ 1000000) : due p s n = decide (p ≤ n - s) := by
  unfold due
  rw [longE s n h h1 h2, ptE p hp]
theorem etE (p s n : Int) (hp : 0 ≤ p) : 0 ≤ etS p s n ∧ etS p s n ≤ p := by
  unfold etS imin
  rw [ptE p hp]
  have : 0 ≤ longS s n := by
    unfold longS imax
    split <;> omega
  split <;> omega
theorem onE (b : Bool) : ladderbacklaw08_on.f b = some (if b then 1 else 0) := by cases b <;> rfl
theorem biT : bi true = 1 := rfl
theorem biF : bi false = 0 := rfl
theorem t1 (f0 pt q et p s n : Int) : timer_Step.f 1 f0 pt q et p s 0 0 0 0 n = some (delayS ⟨f0, pt, q, et, p, s, 0, 0, 0, 0⟩ n).tup := rfl
theorem t2 (f0 pt q et p s n : Int) : timer_Step.f 2 f0 pt q et p s 0 0 0 0 n = some (holdS ⟨f0, pt, q, et, p, s, 0, 0, 0, 0⟩ n).tup := rfl
theorem dA1 (pt q et s n : Int) {b : Bool} (h : due pt s n = b) : delayS ⟨1, pt, q, et, 1, s, 0, 0, 0, 0⟩ n = ⟨1, pt, bi b, etS pt s n, 1, s, 0, 0, 0, 0⟩ := by simp [delayS, h]
theorem dA2 (pt q et s n : Int) {b : Bool} (h : due pt n n = b) : delayS ⟨1, pt, q, et, 0, s, 0, 0, 0, 0⟩ n = ⟨1, pt, bi b, etS pt n n, 1, n, 0, 0, 0, 0⟩ := by simp [delayS, h]
theorem dA0 (pt q et p s n : Int) : delayS ⟨0, pt, q, et, p, s, 0, 0, 0, 0⟩ n = ⟨0, pt, 0, 0, 0, s, 0, 0, 0, 0⟩ := rfl
theorem hB1 (pt q et p s n : Int) : holdS ⟨1, pt, q, et, p, s, 0, 0, 0, 0⟩ n = ⟨1, pt, 1, 0, 1, s, 0, 0, 0, 0⟩ := rfl
theorem hB2t (pt q et s n : Int) (h : due pt n n = true) : holdS ⟨0, pt, q, et, 1, s, 0, 0, 0, 0⟩ n = ⟨0, pt, 0, etS pt n n, 3, n, 0, 0, 0, 0⟩ := by simp [holdS, h]
theorem hB2f (pt q et s n : Int) (h : due pt n n = false) : holdS ⟨0, pt, q, et, 1, s, 0, 0, 0, 0⟩ n = ⟨0, pt, q, etS pt n n, 2, n, 0, 0, 0, 0⟩ := by simp [holdS, h]
theorem hB3t (pt q et s n : Int) (h : due pt s n = true) : holdS ⟨0, pt, q, et, 2, s, 0, 0, 0, 0⟩ n = ⟨0, pt, 0, etS pt s n, 3, s, 0, 0, 0, 0⟩ := by simp [holdS, h]
theorem hB3f (pt q et s n : Int) (h : due pt s n = false) : holdS ⟨0, pt, q, et, 2, s, 0, 0, 0, 0⟩ n = ⟨0, pt, q, etS pt s n, 2, s, 0, 0, 0, 0⟩ := by simp [holdS, h]
theorem hB4 (pt q et s n : Int) : holdS ⟨0, pt, q, et, 3, s, 0, 0, 0, 0⟩ n = ⟨0, pt, q, et, 3, s, 0, 0, 0, 0⟩ := rfl
theorem hB0 (pt q et s n : Int) : holdS ⟨0, pt, q, et, 0, s, 0, 0, 0, 0⟩ n = ⟨0, pt, q, et, 0, s, 0, 0, 0, 0⟩ := rfl
def Inv (pt : Int) (i : Nat) (now since : Int) (was ever : Bool) (pa sa qb pb sb : Int) : Prop := 0 ≤ since ∧ since ≤ now ∧ ((i ≠ 0 ∧ was = true ∧ ever = true ∧ pa = 1 ∧ sa = since ∧ pb = 1 ∧ qb = 1) ∨ (was = false ∧ ever = false ∧ pa = 0 ∧ pb = 0 ∧ qb = 0) ∨ (i ≠ 0 ∧ was = false ∧ ever = true ∧ pa = 0 ∧ pb = 2 ∧ qb = 1 ∧ sb = since) ∨ (i ≠ 0 ∧ was = false ∧ ever = true ∧ pa = 0 ∧ pb = 3 ∧ qb = 0 ∧ pt ≤ now - since))
set_option maxHeartbeats 4000000 in
theorem loopT (L : List S33) (pt : Int) (hp : 0 ≤ pt) (hp' : pt ≤ 255) (hL : ∀ y ∈ L, W33 y) (hlen : L.length ≤ 60) : ∀ d i, i + d = L.length → ∀ k, 4 * d + 1 ≤ k → ∀ (now since : Int) (was ever : Bool) (fa qa ea pa sa fb qb eb pb sb : Int), Inv pt i now since was ever pa sa qb pb sb → now ≤ 255 * i →
    ladderbacklaw08_TimerDelays.l0 k pt L now since was ever i fa pt qa ea pa sa 0 0 0 0 fb pt qb eb pb sb 0 0 0 0 = some true
  | 0, i, hi, k, hk, now, since, was, ever, fa, qa, ea, pa, sa, fb, qb, eb, pb, sb, _, _ => by
    obtain ⟨k, rfl⟩ : ∃ k', k = k' + 1 := ⟨k - 1, by omega⟩
    rw [ladderbacklaw08_TimerDelays.l0, if_neg (by omega), awakeT]
    rfl
  | d + 1, i, hi, k, hk, now, since, was, ever, fa, qa, ea, pa, sa, fb, qb, eb, pb, sb, hI, hn => by
    obtain ⟨k, rfl⟩ : ∃ k', k = k' + 1 + 1 + 1 + 1 := ⟨k - 4, by omega⟩
    have hlt : (i : Int) < (L.length : Int) := by omega
    have h0 : (0 : Int) ≤ (i : Int) := by omega
    have hm : rd_T33 L (i : Int) ∈ L := by
      unfold rd_T33
      rw [Int.toNat_natCast, List.getD_eq_getElem?_getD, List.getElem?_eq_getElem (by omega)]
      exact List.getElem_mem _
    rcases hr : rd_T33 L (i : Int) with ⟨wt, on⟩
    rw [hr] at hm
    have hw := (hL _ hm).1
    simp [Lit.wf, IntKind.min, IntKind.max, IntKind.signed, IntKind.bits] at hw
    obtain ⟨s0, s1, hI⟩ := hI
    have hN : wrap64 (now + wrap64 wt) = now + wt := by rw [w64 wt (by omega), w64 _ (by omega)]
    have hP : wrap64 pt = pt := w64 _ (by omega)
    have hI1 : wrap64 ((i : Int) + 1) = ((i + 1 : Nat) : Int) := by rw [w64 _ (by omega)]; omega
    have ih := loopT L pt hp hp' hL hlen d (i + 1) (by omega) k (by omega)
    rcases hI with ⟨hi0, rfl, rfl, rfl, rfl, rfl, rfl⟩ | ⟨rfl, rfl, rfl, rfl, rfl⟩ | ⟨hi0, rfl, rfl, rfl, rfl, rfl, rfl⟩ | ⟨hi0, rfl, rfl, rfl, rfl, rfl, hq⟩
    · cases on
      · skip
        by_cases hz : pt ≤ now + wt - (now + wt)
        · skip
          have hd : due pt (now + wt) (now + wt) = true := by rw [dueE pt _ _ hp (by clear hN hP hI1 ih; (try clear hd); (try clear hl); omega) (by clear hN hP hI1 ih; (try clear hd); (try clear hl); omega) (by clear hN hP hI1 ih; (try clear hd); (try clear hl); omega)]; exact decide_eq_true (by clear hN hP hI1 ih; (try clear hd); (try clear hl); omega)
          have hl : decide (wrap64 (now + wt - (now + wt)) ≥ pt) = true := by rw [w64 _ (by clear hN hP hI1 ih; (try clear hd); (try clear hl); omega)]; exact decide_eq_true (by clear hN hP hI1 ih; (try clear hd); (try clear hl); omega)
          simp only [ladderbacklaw08_TimerDelays.l0, ladderbacklaw08_TimerDelays.j1, ladderbacklaw08_TimerDelays.j2, ladderbacklaw08_TimerDelays.j3, hr, hN, hP, hI1, if_pos hlt, if_pos h0, if_true, Bool.false_eq_true, if_false, Bool.not_false, Bool.not_true, t1, t2, onE, Option.bind_some, In.tup, biT, biF, bne_self_eq_false, Bool.true_bne, Bool.false_bne, Bool.bne_false, Bool.bne_true, if_neg (show ¬ ((i : Int) = 0) by clear hN hP hI1 ih; (try clear hd); (try clear hl); omega), dA0, hB2t _ _ _ _ _ hd, hl]
          exact ih _ _ _ _ _ _ _ _ _ _ _ _ _ _ ⟨by clear hN hP hI1 ih; (try clear hd); (try clear hl); omega, by clear hN hP hI1 ih; (try clear hd); (try clear hl); omega, Or.inr (Or.inr (Or.inr ⟨by clear hN hP hI1 ih; (try clear hd); (try clear hl); omega, rfl, rfl, rfl, rfl, rfl, by clear hN hP hI1 ih; (try clear hd); (try clear hl); omega⟩))⟩ (by clear hN hP hI1 ih; (try clear hd); (try clear hl); omega)
        · skip
          have hd : due pt (now + wt) (now + wt) = false := by rw [dueE pt _ _ hp (by clear hN hP hI1 ih; (try clear hd); (try clear hl); omega) (by clear hN hP hI1 ih; (try clear hd); (try clear hl); omega) (by clear hN hP hI1 ih; (try clear hd); (try clear hl); omega)]; exact decide_eq_false (by clear hN hP hI1 ih; (try clear hd); (try clear hl); omega)
          have hl : decide (wrap64 (now + wt - (now + wt)) ≥ pt) = false := by rw [w64 _ (by clear hN hP hI1 ih; (try clear hd); (try clear hl); omega)]; exact decide_eq_false (by clear hN hP hI1 ih; (try clear hd); (try clear hl); omega)
          simp only [ladderbacklaw08_TimerDelays.l0, ladderbacklaw08_TimerDelays.j1, ladderbacklaw08_TimerDelays.j2, ladderbacklaw08_TimerDelays.j3, hr, hN, hP, hI1, if_pos hlt, if_pos h0, if_true, Bool.false_eq_true, if_false, Bool.not_false, Bool.not_true, t1, t2, onE, Option.bind_some, In.tup, biT, biF, bne_self_eq_false, Bool.true_bne, Bool.false_bne, Bool.bne_false, Bool.bne_true, if_neg (show ¬ ((i : Int) = 0) by clear hN hP hI1 ih; (try clear hd); (try clear hl); omega), dA0, hB2f _ _ _ _ _ hd, hl]
          exact ih _ _ _ _ _ _ _ _ _ _ _ _ _ _ ⟨by clear hN hP hI1 ih; (try clear hd); (try clear hl); omega, by clear hN hP hI1 ih; (try clear hd); (try clear hl); omega, Or.inr (Or.inr (Or.inl ⟨by clear hN hP hI1 ih; (try clear hd); (try clear hl); omega, rfl, rfl, rfl, rfl, rfl, rfl⟩))⟩ (by clear hN hP hI1 ih; (try clear hd); (try clear hl); omega)
      · skip
        by_cases hz : pt ≤ now + wt - sa
        · skip
          have hd : due pt sa (now + wt) = true := by rw [dueE pt _ _ hp (by clear hN hP hI1 ih; (try clear hd); (try clear hl); omega) (by clear hN hP hI1 ih; (try clear hd); (try clear hl); omega) (by clear hN hP hI1 ih; (try clear hd); (try clear hl); omega)]; exact decide_eq_true (by clear hN hP hI1 ih; (try clear hd); (try clear hl); omega)
          have hl : decide (wrap64 (now + wt - sa) ≥ pt) = true := by rw [w64 _ (by clear hN hP hI1 ih; (try clear hd); (try clear hl); omega)]; exact decide_eq_true (by clear hN hP hI1 ih; (try clear hd); (try clear hl); omega)
          simp only [ladderbacklaw08_TimerDelays.l0, ladderbacklaw08_TimerDelays.j1, ladderbacklaw08_TimerDelays.j2, ladderbacklaw08_TimerDelays.j3, hr, hN, hP, hI1, if_pos hlt, if_pos h0, if_true, Bool.false_eq_true, if_false, Bool.not_false, Bool.not_true, t1, t2, onE, Option.bind_some, In.tup, biT, biF, bne_self_eq_false, Bool.true_bne, Bool.false_bne, Bool.bne_false, Bool.bne_true, if_neg (show ¬ ((i : Int) = 0) by clear hN hP hI1 ih; (try clear hd); (try clear hl); omega), dA1 _ _ _ _ _ hd, hB1, hl]
          exact ih _ _ _ _ _ _ _ _ _ _ _ _ _ _ ⟨by clear hN hP hI1 ih; (try clear hd); (try clear hl); omega, by clear hN hP hI1 ih; (try clear hd); (try clear hl); omega, Or.inl ⟨by clear hN hP hI1 ih; (try clear hd); (try clear hl); omega, rfl, rfl, rfl, rfl, rfl, rfl⟩⟩ (by clear hN hP hI1 ih; (try clear hd); (try clear hl); omega)
        · skip
          have hd : due pt sa (now + wt) = false := by rw [dueE pt _ _ hp (by clear hN hP hI1 ih; (try clear hd); (try clear hl); omega) (by clear hN hP hI1 ih; (try clear hd); (try clear hl); omega) (by clear hN hP hI1 ih; (try clear hd); (try clear hl); omega)]; exact decide_eq_false (by clear hN hP hI1 ih; (try clear hd); (try clear hl); omega)
          have hl : decide (wrap64 (now + wt - sa) ≥ pt) = false := by rw [w64 _ (by clear hN hP hI1 ih; (try clear hd); (try clear hl); omega)]; exact decide_eq_false (by clear hN hP hI1 ih; (try clear hd); (try clear hl); omega)
          simp only [ladderbacklaw08_TimerDelays.l0, ladderbacklaw08_TimerDelays.j1, ladderbacklaw08_TimerDelays.j2, ladderbacklaw08_TimerDelays.j3, hr, hN, hP, hI1, if_pos hlt, if_pos h0, if_true, Bool.false_eq_true, if_false, Bool.not_false, Bool.not_true, t1, t2, onE, Option.bind_some, In.tup, biT, biF, bne_self_eq_false, Bool.true_bne, Bool.false_bne, Bool.bne_false, Bool.bne_true, if_neg (show ¬ ((i : Int) = 0) by clear hN hP hI1 ih; (try clear hd); (try clear hl); omega), dA1 _ _ _ _ _ hd, hB1, hl]
          exact ih _ _ _ _ _ _ _ _ _ _ _ _ _ _ ⟨by clear hN hP hI1 ih; (try clear hd); (try clear hl); omega, by clear hN hP hI1 ih; (try clear hd); (try clear hl); omega, Or.inl ⟨by clear hN hP hI1 ih; (try clear hd); (try clear hl); omega, rfl, rfl, rfl, rfl, rfl, rfl⟩⟩ (by clear hN hP hI1 ih; (try clear hd); (try clear hl); omega)
    · by_cases hi0 : i = 0
      · cases on
        · skip
          simp only [ladderbacklaw08_TimerDelays.l0, ladderbacklaw08_TimerDelays.j1, ladderbacklaw08_TimerDelays.j2, ladderbacklaw08_TimerDelays.j3, hr, hN, hP, hI1, if_pos hlt, if_pos h0, if_true, Bool.false_eq_true, if_false, Bool.not_false, Bool.not_true, t1, t2, onE, Option.bind_some, In.tup, biT, biF, bne_self_eq_false, Bool.true_bne, Bool.false_bne, Bool.bne_false, Bool.bne_true, if_pos (show (i : Int) = 0 by clear hN hP hI1 ih; (try clear hd); (try clear hl); omega), dA0, hB0]
          exact ih _ _ _ _ _ _ _ _ _ _ _ _ _ _ ⟨by clear hN hP hI1 ih; (try clear hd); (try clear hl); omega, by clear hN hP hI1 ih; (try clear hd); (try clear hl); omega, Or.inr (Or.inl ⟨rfl, rfl, rfl, rfl, rfl⟩)⟩ (by clear hN hP hI1 ih; (try clear hd); (try clear hl); omega)
        · skip
          by_cases hz : pt ≤ now + wt - (now + wt)
          · skip
            have hd : due pt (now + wt) (now + wt) = true := by rw [dueE pt _ _ hp (by clear hN hP hI1 ih; (try clear hd); (try clear hl); omega) (by clear hN hP hI1 ih; (try clear hd); (try clear hl); omega) (by clear hN hP hI1 ih; (try clear hd); (try clear hl); omega)]; exact decide_eq_true (by clear hN hP hI1 ih; (try clear hd); (try clear hl); omega)
            have hl : decide (wrap64 (now + wt - (now + wt)) ≥ pt) = true := by rw [w64 _ (by clear hN hP hI1 ih; (try clear hd); (try clear hl); omega)]; exact decide_eq_true (by clear hN hP hI1 ih; (try clear hd); (try clear hl); omega)
            simp only [ladderbacklaw08_TimerDelays.l0, ladderbacklaw08_TimerDelays.j1, ladderbacklaw08_TimerDelays.j2, ladderbacklaw08_TimerDelays.j3, hr, hN, hP, hI1, if_pos hlt, if_pos h0, if_true, Bool.false_eq_true, if_false, Bool.not_false, Bool.not_true, t1, t2, onE, Option.bind_some, In.tup, biT, biF, bne_self_eq_false, Bool.true_bne, Bool.false_bne, Bool.bne_false, Bool.bne_true, if_pos (show (i : Int) = 0 by clear hN hP hI1 ih; (try clear hd); (try clear hl); omega), dA2 _ _ _ _ _ hd, hB1, hl]
            exact ih _ _ _ _ _ _ _ _ _ _ _ _ _ _ ⟨by clear hN hP hI1 ih; (try clear hd); (try clear hl); omega, by clear hN hP hI1 ih; (try clear hd); (try clear hl); omega, Or.inl ⟨by clear hN hP hI1 ih; (try clear hd); (try clear hl); omega, rfl, rfl, rfl, rfl, rfl, rfl⟩⟩ (by clear hN hP hI1 ih; (try clear hd); (try clear hl); omega)
          · skip
            have hd : due pt (now + wt) (now + wt) = false := by rw [dueE pt _ _ hp (by clear hN hP hI1 ih; (try clear hd); (try clear hl); omega) (by clear hN hP hI1 ih; (try clear hd); (try clear hl); omega) (by clear hN hP hI1 ih; (try clear hd); (try clear hl); omega)]; exact decide_eq_false (by clear hN hP hI1 ih; (try clear hd); (try clear hl); omega)
            have hl : decide (wrap64 (now + wt - (now + wt)) ≥ pt) = false := by rw [w64 _ (by clear hN hP hI1 ih; (try clear hd); (try clear hl); omega)]; exact decide_eq_false (by clear hN hP hI1 ih; (try clear hd); (try clear hl); omega)
            simp only [ladderbacklaw08_TimerDelays.l0, ladderbacklaw08_TimerDelays.j1, ladderbacklaw08_TimerDelays.j2, ladderbacklaw08_TimerDelays.j3, hr, hN, hP, hI1, if_pos hlt, if_pos h0, if_true, Bool.false_eq_true, if_false, Bool.not_false, Bool.not_true, t1, t2, onE, Option.bind_some, In.tup, biT, biF, bne_self_eq_false, Bool.true_bne, Bool.false_bne, Bool.bne_false, Bool.bne_true, if_pos (show (i : Int) = 0 by clear hN hP hI1 ih; (try clear hd); (try clear hl); omega), dA2 _ _ _ _ _ hd, hB1, hl]
            exact ih _ _ _ _ _ _ _ _ _ _ _ _ _ _ ⟨by clear hN hP hI1 ih; (try clear hd); (try clear hl); omega, by clear hN hP hI1 ih; (try clear hd); (try clear hl); omega, Or.inl ⟨by clear hN hP hI1 ih; (try clear hd); (try clear hl); omega, rfl, rfl, rfl, rfl, rfl, rfl⟩⟩ (by clear hN hP hI1 ih; (try clear hd); (try clear hl); omega)
      · cases on
        · skip
          simp only [ladderbacklaw08_TimerDelays.l0, ladderbacklaw08_TimerDelays.j1, ladderbacklaw08_TimerDelays.j2, ladderbacklaw08_TimerDelays.j3, hr, hN, hP, hI1, if_pos hlt, if_pos h0, if_true, Bool.false_eq_true, if_false, Bool.not_false, Bool.not_true, t1, t2, onE, Option.bind_some, In.tup, biT, biF, bne_self_eq_false, Bool.true_bne, Bool.false_bne, Bool.bne_false, Bool.bne_true, if_neg (show ¬ ((i : Int) = 0) by clear hN hP hI1 ih; (try clear hd); (try clear hl); omega), dA0, hB0]
          exact ih _ _ _ _ _ _ _ _ _ _ _ _ _ _ ⟨by clear hN hP hI1 ih; (try clear hd); (try clear hl); omega, by clear hN hP hI1 ih; (try clear hd); (try clear hl); omega, Or.inr (Or.inl ⟨rfl, rfl, rfl, rfl, rfl⟩)⟩ (by clear hN hP hI1 ih; (try clear hd); (try clear hl); omega)
        · skip
          by_cases hz : pt ≤ now + wt - (now + wt)
          · skip
            have hd : due pt (now + wt) (now + wt) = true := by rw [dueE pt _ _ hp (by clear hN hP hI1 ih; (try clear hd); (try clear hl); omega) (by clear hN hP hI1 ih; (try clear hd); (try clear hl); omega) (by clear hN hP hI1 ih; (try clear hd); (try clear hl); omega)]; exact decide_eq_true (by clear hN hP hI1 ih; (try clear hd); (try clear hl); omega)
            have hl : decide (wrap64 (now + wt - (now + wt)) ≥ pt) = true := by rw [w64 _ (by clear hN hP hI1 ih; (try clear hd); (try clear hl); omega)]; exact decide_eq_true (by clear hN hP hI1 ih; (try clear hd); (try clear hl); omega)
            simp only [ladderbacklaw08_TimerDelays.l0, ladderbacklaw08_TimerDelays.j1, ladderbacklaw08_TimerDelays.j2, ladderbacklaw08_TimerDelays.j3, hr, hN, hP, hI1, if_pos hlt, if_pos h0, if_true, Bool.false_eq_true, if_false, Bool.not_false, Bool.not_true, t1, t2, onE, Option.bind_some, In.tup, biT, biF, bne_self_eq_false, Bool.true_bne, Bool.false_bne, Bool.bne_false, Bool.bne_true, if_neg (show ¬ ((i : Int) = 0) by clear hN hP hI1 ih; (try clear hd); (try clear hl); omega), dA2 _ _ _ _ _ hd, hB1, hl]
            exact ih _ _ _ _ _ _ _ _ _ _ _ _ _ _ ⟨by clear hN hP hI1 ih; (try clear hd); (try clear hl); omega, by clear hN hP hI1 ih; (try clear hd); (try clear hl); omega, Or.inl ⟨by clear hN hP hI1 ih; (try clear hd); (try clear hl); omega, rfl, rfl, rfl, rfl, rfl, rfl⟩⟩ (by clear hN hP hI1 ih; (try clear hd); (try clear hl); omega)
          · skip
            have hd : due pt (now + wt) (now + wt) = false := by rw [dueE pt _ _ hp (by clear hN hP hI1 ih; (try clear hd); (try clear hl); omega) (by clear hN hP hI1 ih; (try clear hd); (try clear hl); omega) (by clear hN hP hI1 ih; (try clear hd); (try clear hl); omega)]; exact decide_eq_false (by clear hN hP hI1 ih; (try clear hd); (try clear hl); omega)
            have hl : decide (wrap64 (now + wt - (now + wt)) ≥ pt) = false := by rw [w64 _ (by clear hN hP hI1 ih; (try clear hd); (try clear hl); omega)]; exact decide_eq_false (by clear hN hP hI1 ih; (try clear hd); (try clear hl); omega)
            simp only [ladderbacklaw08_TimerDelays.l0, ladderbacklaw08_TimerDelays.j1, ladderbacklaw08_TimerDelays.j2, ladderbacklaw08_TimerDelays.j3, hr, hN, hP, hI1, if_pos hlt, if_pos h0, if_true, Bool.false_eq_true, if_false, Bool.not_false, Bool.not_true, t1, t2, onE, Option.bind_some, In.tup, biT, biF, bne_self_eq_false, Bool.true_bne, Bool.false_bne, Bool.bne_false, Bool.bne_true, if_neg (show ¬ ((i : Int) = 0) by clear hN hP hI1 ih; (try clear hd); (try clear hl); omega), dA2 _ _ _ _ _ hd, hB1, hl]
            exact ih _ _ _ _ _ _ _ _ _ _ _ _ _ _ ⟨by clear hN hP hI1 ih; (try clear hd); (try clear hl); omega, by clear hN hP hI1 ih; (try clear hd); (try clear hl); omega, Or.inl ⟨by clear hN hP hI1 ih; (try clear hd); (try clear hl); omega, rfl, rfl, rfl, rfl, rfl, rfl⟩⟩ (by clear hN hP hI1 ih; (try clear hd); (try clear hl); omega)
    · cases on
      · skip
        by_cases hz : pt ≤ now + wt - sb
        · skip
          have hd : due pt sb (now + wt) = true := by rw [dueE pt _ _ hp (by clear hN hP hI1 ih; (try clear hd); (try clear hl); omega) (by clear hN hP hI1 ih; (try clear hd); (try clear hl); omega) (by clear hN hP hI1 ih; (try clear hd); (try clear hl); omega)]; exact decide_eq_true (by clear hN hP hI1 ih; (try clear hd); (try clear hl); omega)
          have hl : decide (wrap64 (now + wt - sb) ≥ pt) = true := by rw [w64 _ (by clear hN hP hI1 ih; (try clear hd); (try clear hl); omega)]; exact decide_eq_true (by clear hN hP hI1 ih; (try clear hd); (try clear hl); omega)
          simp only [ladderbacklaw08_TimerDelays.l0, ladderbacklaw08_TimerDelays.j1, ladderbacklaw08_TimerDelays.j2, ladderbacklaw08_TimerDelays.j3, hr, hN, hP, hI1, if_pos hlt, if_pos h0, if_true, Bool.false_eq_true, if_false, Bool.not_false, Bool.not_true, t1, t2, onE, Option.bind_some, In.tup, biT, biF, bne_self_eq_false, Bool.true_bne, Bool.false_bne, Bool.bne_false, Bool.bne_true, if_neg (show ¬ ((i : Int) = 0) by clear hN hP hI1 ih; (try clear hd); (try clear hl); omega), dA0, hB3t _ _ _ _ _ hd, hl]
          exact ih _ _ _ _ _ _ _ _ _ _ _ _ _ _ ⟨by clear hN hP hI1 ih; (try clear hd); (try clear hl); omega, by clear hN hP hI1 ih; (try clear hd); (try clear hl); omega, Or.inr (Or.inr (Or.inr ⟨by clear hN hP hI1 ih; (try clear hd); (try clear hl); omega, rfl, rfl, rfl, rfl, rfl, by clear hN hP hI1 ih; (try clear hd); (try clear hl); omega⟩))⟩ (by clear hN hP hI1 ih; (try clear hd); (try clear hl); omega)
        · skip
          have hd : due pt sb (now + wt) = false := by rw [dueE pt _ _ hp (by clear hN hP hI1 ih; (try clear hd); (try clear hl); omega) (by clear hN hP hI1 ih; (try clear hd); (try clear hl); omega) (by clear hN hP hI1 ih; (try clear hd); (try clear hl); omega)]; exact decide_eq_false (by clear hN hP hI1 ih; (try clear hd); (try clear hl); omega)
          have hl : decide (wrap64 (now + wt - sb) ≥ pt) = false := by rw [w64 _ (by clear hN hP hI1 ih; (try clear hd); (try clear hl); omega)]; exact decide_eq_false (by clear hN hP hI1 ih; (try clear hd); (try clear hl); omega)
          simp only [ladderbacklaw08_TimerDelays.l0, ladderbacklaw08_TimerDelays.j1, ladderbacklaw08_TimerDelays.j2, ladderbacklaw08_TimerDelays.j3, hr, hN, hP, hI1, if_pos hlt, if_pos h0, if_true, Bool.false_eq_true, if_false, Bool.not_false, Bool.not_true, t1, t2, onE, Option.bind_some, In.tup, biT, biF, bne_self_eq_false, Bool.true_bne, Bool.false_bne, Bool.bne_false, Bool.bne_true, if_neg (show ¬ ((i : Int) = 0) by clear hN hP hI1 ih; (try clear hd); (try clear hl); omega), dA0, hB3f _ _ _ _ _ hd, hl]
          exact ih _ _ _ _ _ _ _ _ _ _ _ _ _ _ ⟨by clear hN hP hI1 ih; (try clear hd); (try clear hl); omega, by clear hN hP hI1 ih; (try clear hd); (try clear hl); omega, Or.inr (Or.inr (Or.inl ⟨by clear hN hP hI1 ih; (try clear hd); (try clear hl); omega, rfl, rfl, rfl, rfl, rfl, rfl⟩))⟩ (by clear hN hP hI1 ih; (try clear hd); (try clear hl); omega)
      · skip
        by_cases hz : pt ≤ now + wt - (now + wt)
        · skip
          have hd : due pt (now + wt) (now + wt) = true := by rw [dueE pt _ _ hp (by clear hN hP hI1 ih; (try clear hd); (try clear hl); omega) (by clear hN hP hI1 ih; (try clear hd); (try clear hl); omega) (by clear hN hP hI1 ih; (try clear hd); (try clear hl); omega)]; exact decide_eq_true (by clear hN hP hI1 ih; (try clear hd); (try clear hl); omega)
          have hl : decide (wrap64 (now + wt - (now + wt)) ≥ pt) = true := by rw [w64 _ (by clear hN hP hI1 ih; (try clear hd); (try clear hl); omega)]; exact decide_eq_true (by clear hN hP hI1 ih; (try clear hd); (try clear hl); omega)
          simp only [ladderbacklaw08_TimerDelays.l0, ladderbacklaw08_TimerDelays.j1, ladderbacklaw08_TimerDelays.j2, ladderbacklaw08_TimerDelays.j3, hr, hN, hP, hI1, if_pos hlt, if_pos h0, if_true, Bool.false_eq_true, if_false, Bool.not_false, Bool.not_true, t1, t2, onE, Option.bind_some, In.tup, biT, biF, bne_self_eq_false, Bool.true_bne, Bool.false_bne, Bool.bne_false, Bool.bne_true, if_neg (show ¬ ((i : Int) = 0) by clear hN hP hI1 ih; (try clear hd); (try clear hl); omega), dA2 _ _ _ _ _ hd, hB1, hl]
          exact ih _ _ _ _ _ _ _ _ _ _ _ _ _ _ ⟨by clear hN hP hI1 ih; (try clear hd); (try clear hl); omega, by clear hN hP hI1 ih; (try clear hd); (try clear hl); omega, Or.inl ⟨by clear hN hP hI1 ih; (try clear hd); (try clear hl); omega, rfl, rfl, rfl, rfl, rfl, rfl⟩⟩ (by clear hN hP hI1 ih; (try clear hd); (try clear hl); omega)
        · skip
          have hd : due pt (now + wt) (now + wt) = false := by rw [dueE pt _ _ hp (by clear hN hP hI1 ih; (try clear hd); (try clear hl); omega) (by clear hN hP hI1 ih; (try clear hd); (try clear hl); omega) (by clear hN hP hI1 ih; (try clear hd); (try clear hl); omega)]; exact decide_eq_false (by clear hN hP hI1 ih; (try clear hd); (try clear hl); omega)
          have hl : decide (wrap64 (now + wt - (now + wt)) ≥ pt) = false := by rw [w64 _ (by clear hN hP hI1 ih; (try clear hd); (try clear hl); omega)]; exact decide_eq_false (by clear hN hP hI1 ih; (try clear hd); (try clear hl); omega)
          simp only [ladderbacklaw08_TimerDelays.l0, ladderbacklaw08_TimerDelays.j1, ladderbacklaw08_TimerDelays.j2, ladderbacklaw08_TimerDelays.j3, hr, hN, hP, hI1, if_pos hlt, if_pos h0, if_true, Bool.false_eq_true, if_false, Bool.not_false, Bool.not_true, t1, t2, onE, Option.bind_some, In.tup, biT, biF, bne_self_eq_false, Bool.true_bne, Bool.false_bne, Bool.bne_false, Bool.bne_true, if_neg (show ¬ ((i : Int) = 0) by clear hN hP hI1 ih; (try clear hd); (try clear hl); omega), dA2 _ _ _ _ _ hd, hB1, hl]
          exact ih _ _ _ _ _ _ _ _ _ _ _ _ _ _ ⟨by clear hN hP hI1 ih; (try clear hd); (try clear hl); omega, by clear hN hP hI1 ih; (try clear hd); (try clear hl); omega, Or.inl ⟨by clear hN hP hI1 ih; (try clear hd); (try clear hl); omega, rfl, rfl, rfl, rfl, rfl, rfl⟩⟩ (by clear hN hP hI1 ih; (try clear hd); (try clear hl); omega)
    · cases on
      · skip
        have hl : decide (wrap64 (now + wt - since) ≥ pt) = true := by rw [w64 _ (by clear hN hP hI1 ih; (try clear hd); (try clear hl); omega)]; exact decide_eq_true (by clear hN hP hI1 ih; (try clear hd); (try clear hl); omega)
        simp only [ladderbacklaw08_TimerDelays.l0, ladderbacklaw08_TimerDelays.j1, ladderbacklaw08_TimerDelays.j2, ladderbacklaw08_TimerDelays.j3, hr, hN, hP, hI1, if_pos hlt, if_pos h0, if_true, Bool.false_eq_true, if_false, Bool.not_false, Bool.not_true, t1, t2, onE, Option.bind_some, In.tup, biT, biF, bne_self_eq_false, Bool.true_bne, Bool.false_bne, Bool.bne_false, Bool.bne_true, if_neg (show ¬ ((i : Int) = 0) by clear hN hP hI1 ih; (try clear hd); (try clear hl); omega), dA0, hB4, hl]
        exact ih _ _ _ _ _ _ _ _ _ _ _ _ _ _ ⟨by clear hN hP hI1 ih; (try clear hd); (try clear hl); omega, by clear hN hP hI1 ih; (try clear hd); (try clear hl); omega, Or.inr (Or.inr (Or.inr ⟨by clear hN hP hI1 ih; (try clear hd); (try clear hl); omega, rfl, rfl, rfl, rfl, rfl, by clear hN hP hI1 ih; (try clear hd); (try clear hl); omega⟩))⟩ (by clear hN hP hI1 ih; (try clear hd); (try clear hl); omega)
      · skip
        by_cases hz : pt ≤ now + wt - (now + wt)
        · skip
          have hd : due pt (now + wt) (now + wt) = true := by rw [dueE pt _ _ hp (by clear hN hP hI1 ih; (try clear hd); (try clear hl); omega) (by clear hN hP hI1 ih; (try clear hd); (try clear hl); omega) (by clear hN hP hI1 ih; (try clear hd); (try clear hl); omega)]; exact decide_eq_true (by clear hN hP hI1 ih; (try clear hd); (try clear hl); omega)
          have hl : decide (wrap64 (now + wt - (now + wt)) ≥ pt) = true := by rw [w64 _ (by clear hN hP hI1 ih; (try clear hd); (try clear hl); omega)]; exact decide_eq_true (by clear hN hP hI1 ih; (try clear hd); (try clear hl); omega)
          simp only [ladderbacklaw08_TimerDelays.l0, ladderbacklaw08_TimerDelays.j1, ladderbacklaw08_TimerDelays.j2, ladderbacklaw08_TimerDelays.j3, hr, hN, hP, hI1, if_pos hlt, if_pos h0, if_true, Bool.false_eq_true, if_false, Bool.not_false, Bool.not_true, t1, t2, onE, Option.bind_some, In.tup, biT, biF, bne_self_eq_false, Bool.true_bne, Bool.false_bne, Bool.bne_false, Bool.bne_true, if_neg (show ¬ ((i : Int) = 0) by clear hN hP hI1 ih; (try clear hd); (try clear hl); omega), dA2 _ _ _ _ _ hd, hB1, hl]
          exact ih _ _ _ _ _ _ _ _ _ _ _ _ _ _ ⟨by clear hN hP hI1 ih; (try clear hd); (try clear hl); omega, by clear hN hP hI1 ih; (try clear hd); (try clear hl); omega, Or.inl ⟨by clear hN hP hI1 ih; (try clear hd); (try clear hl); omega, rfl, rfl, rfl, rfl, rfl, rfl⟩⟩ (by clear hN hP hI1 ih; (try clear hd); (try clear hl); omega)
        · skip
          have hd : due pt (now + wt) (now + wt) = false := by rw [dueE pt _ _ hp (by clear hN hP hI1 ih; (try clear hd); (try clear hl); omega) (by clear hN hP hI1 ih; (try clear hd); (try clear hl); omega) (by clear hN hP hI1 ih; (try clear hd); (try clear hl); omega)]; exact decide_eq_false (by clear hN hP hI1 ih; (try clear hd); (try clear hl); omega)
          have hl : decide (wrap64 (now + wt - (now + wt)) ≥ pt) = false := by rw [w64 _ (by clear hN hP hI1 ih; (try clear hd); (try clear hl); omega)]; exact decide_eq_false (by clear hN hP hI1 ih; (try clear hd); (try clear hl); omega)
          simp only [ladderbacklaw08_TimerDelays.l0, ladderbacklaw08_TimerDelays.j1, ladderbacklaw08_TimerDelays.j2, ladderbacklaw08_TimerDelays.j3, hr, hN, hP, hI1, if_pos hlt, if_pos h0, if_true, Bool.false_eq_true, if_false, Bool.not_false, Bool.not_true, t1, t2, onE, Option.bind_some, In.tup, biT, biF, bne_self_eq_false, Bool.true_bne, Bool.false_bne, Bool.bne_false, Bool.bne_true, if_neg (show ¬ ((i : Int) = 0) by clear hN hP hI1 ih; (try clear hd); (try clear hl); omega), dA2 _ _ _ _ _ hd, hB1, hl]
          exact ih _ _ _ _ _ _ _ _ _ _ _ _ _ _ ⟨by clear hN hP hI1 ih; (try clear hd); (try clear hl); omega, by clear hN hP hI1 ih; (try clear hd); (try clear hl); omega, Or.inl ⟨by clear hN hP hI1 ih; (try clear hd); (try clear hl); omega, rfl, rfl, rfl, rfl, rfl, rfl⟩⟩ (by clear hN hP hI1 ih; (try clear hd); (try clear hl); omega)
theorem TimerDelays : ladderbacklaw08_TimerDelays.Pure := by
  intro y0 h0 y1 hy
  refine ⟨4 * y1.length + 1, ?_⟩
  unfold ladderbacklaw08_TimerDelays.f
  simp [Lit.wf, IntKind.min, IntKind.max, IntKind.signed, IntKind.bits] at h0
  by_cases h : (y1.length : Int) > 60
  · rw [if_pos h, awakeT]; rfl
  · rw [if_neg h, w64 y0 (by omega)]
    exact loopT y1 y0 h0.1 (by omega) hy.2 (by omega) y1.length 0 (by omega) _ (Nat.le_refl _) 0 0 false false 0 0 0 0 0 0 0 0 0 0 ⟨by omega, by omega, Or.inr (Or.inl ⟨rfl, rfl, rfl, rfl, rfl⟩)⟩ (by omega)
end Go.Proofs.Ythldpihpjekleaa.Pure
