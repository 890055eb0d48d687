/- TimerPulses: the pulse timer's output, called again and again, is what the law reckons; plain. No condition. -/
import Derived.Test.YthldpihpjekleaaQTimerPulsesx
namespace Go.Proofs.Ythldpihpjekleaa.Pure
open Go.Proofs.Ythldpihpjekleaa Go.Proofs.Ythldpihpjekleaa.QTimerPulses Go.RowKit Go.Proofs.YthldpihpjekleaaW.PrintWords Go.Proofs.YthldpihpjekleaaW.PrintLast Go.Proofs.YthldpihpjekleaaW.PrintMore
set_option linter.unusedSimpArgs false
theorem awakeT : ladderbacklaw08_awake.f = some true := by decide +kernel
theorem w64 (x : Int) (h : -1000000 ≤ x ∧ x ≤ 1000000) : wrap64 x = x := Go.IntWalk.wrap64_in x (by omega)
theorem hdS (n : Int) (h : 0 ≤ n) (h' : n ≤ 1000000) : hd n = n := by
  unfold hd imax imin
  rw [if_neg (show ¬ (1099511627776 : Int) < n by omega)]
  by_cases h0 : (0 : Int) < n
  · rw [if_pos h0]
  · rw [if_neg h0]; omega
theorem longE (s n : Int) (h : 0 ≤ s) (h1 : s ≤ n) (h2 : n ≤ 1000000) : longS s n = n - s := by
  unfold longS imax
  rw [hdS s h (by omega), hdS n (by omega) h2]
  split <;> omega
theorem ptE (p : Int) (h : 0 ≤ p) : ptS p = p := by
  unfold ptS imax
  split <;> omega
theorem dueE (p s n : Int) (hp : 0 ≤ p) (h : 0 ≤ s) (h1 : s ≤ n) (h2 : n ≤ 1000000) : due p s n = decide (p ≤ n - s) := by
  unfold due
  rw [longE s n h h1 h2, ptE p hp]
theorem etE (p s n : Int) (hp : 0 ≤ p) : 0 ≤ etS p s n ∧ etS p s n ≤ p := by
  unfold etS imin
  rw [ptE p hp]
  have : 0 ≤ longS s n := by
    unfold longS imax
    split <;> omega
  split <;> omega
def Inv (pt now st : Int) (busy rest : Bool) (q et ph s5 : Int) : Prop := 0 ≤ now ∧ 0 ≤ et ∧ et ≤ pt ∧ ((ph = 0 ∧ rest = true ∧ busy = false ∧ q = 0) ∨ (ph = 1 ∧ rest = false ∧ busy = true ∧ q = 1 ∧ st = s5 ∧ 0 ≤ st ∧ st ≤ now) ∨ (ph = 2 ∧ rest = false ∧ busy = false ∧ q = 0))
theorem tS (f0 pt q et ph s5 now : Int) : timer_Step.f 3 f0 pt q et ph s5 0 0 0 0 now = some (pulseS ⟨f0, pt, q, et, ph, s5, 0, 0, 0, 0⟩ now).tup := rfl
theorem onE (b : Bool) : ladderbacklaw08_on.f b = some (if b then 1 else 0) := by cases b <;> rfl
theorem pA (pt et s5 n : Int) : pulseS ⟨0, pt, 0, et, 0, s5, 0, 0, 0, 0⟩ n = ⟨0, pt, 0, et, 0, s5, 0, 0, 0, 0⟩ := rfl
theorem pB1 (pt et s5 n : Int) (h : due pt n n = true) : pulseS ⟨1, pt, 0, et, 0, s5, 0, 0, 0, 0⟩ n = ⟨1, pt, 0, etS pt n n, 2, n, 0, 0, 0, 0⟩ := by simp [pulseS, h]
theorem pB2 (pt et s5 n : Int) (h : due pt n n = false) : pulseS ⟨1, pt, 0, et, 0, s5, 0, 0, 0, 0⟩ n = ⟨1, pt, 1, etS pt n n, 1, n, 0, 0, 0, 0⟩ := by simp [pulseS, h]
theorem pC1 (pt et s n : Int) (h : due pt s n = true) : pulseS ⟨1, pt, 1, et, 1, s, 0, 0, 0, 0⟩ n = ⟨1, pt, 0, etS pt s n, 2, s, 0, 0, 0, 0⟩ := by simp [pulseS, h]
theorem pC0 (pt et s n : Int) (h : due pt s n = true) : pulseS ⟨0, pt, 1, et, 1, s, 0, 0, 0, 0⟩ n = ⟨0, pt, 0, 0, 0, s, 0, 0, 0, 0⟩ := by simp [pulseS, h]
theorem pC (b pt et s n : Int) (h : due pt s n = false) : pulseS ⟨b, pt, 1, et, 1, s, 0, 0, 0, 0⟩ n = ⟨b, pt, 1, etS pt s n, 1, s, 0, 0, 0, 0⟩ := by simp [pulseS, h]
theorem pD1 (pt et s n : Int) : pulseS ⟨1, pt, 0, et, 2, s, 0, 0, 0, 0⟩ n = ⟨1, pt, 0, et, 2, s, 0, 0, 0, 0⟩ := rfl
theorem pD0 (pt et s n : Int) : pulseS ⟨0, pt, 0, et, 2, s, 0, 0, 0, 0⟩ n = ⟨0, pt, 0, 0, 0, s, 0, 0, 0, 0⟩ := rfl
set_option maxHeartbeats 4000000 in
theorem loopT (L : List S33) (pt : Int) (hp : 0 ≤ pt) (hp' : pt ≤ 255) (hL : ∀ y ∈ L, W33 y) (hlen : L.length ≤ 60) : ∀ d i, i + d = L.length → ∀ k, 6 * d + 1 ≤ k → ∀ (now st : Int) (busy rest : Bool) (f0 q et ph s5 : Int), Inv pt now st busy rest q et ph s5 → now ≤ 255 * i →
    ladderbacklaw08_TimerPulses.l0 k pt L now st busy rest i f0 pt q et ph s5 0 0 0 0 = some true
  | 0, i, hi, k, hk, now, st, busy, rest, f0, q, et, ph, s5, _, _ => by
    obtain ⟨k, rfl⟩ : ∃ k', k = k' + 1 := ⟨k - 1, by omega⟩
    rw [ladderbacklaw08_TimerPulses.l0, if_neg (by omega), awakeT]
    rfl
  | d + 1, i, hi, k, hk, now, st, busy, rest, f0, q, et, ph, s5, hI, hn => by
    obtain ⟨k, rfl⟩ : ∃ k', k = k' + 1 + 1 + 1 + 1 + 1 + 1 := ⟨k - 6, by omega⟩
    have hlt : (i : Int) < (L.length : Int) := by omega
    have h0 : (0 : Int) ≤ (i : Int) := by omega
    have hm : rd_T33 L (i : Int) ∈ L := by
      unfold rd_T33
      rw [Int.toNat_natCast, List.getD_eq_getElem?_getD, List.getElem?_eq_getElem (by omega)]
      exact List.getElem_mem _
    rcases hr : rd_T33 L (i : Int) with ⟨wt, on⟩
    rw [hr] at hm
    have hw := (hL _ hm).1
    simp [Lit.wf, IntKind.min, IntKind.max, IntKind.signed, IntKind.bits] at hw
    have hN : wrap64 (now + wrap64 wt) = now + wt := by rw [w64 wt (by omega), w64 _ (by have := hI.1; omega)]
    have hP : wrap64 pt = pt := w64 _ (by omega)
    have hI1 : wrap64 ((i : Int) + 1) = ((i + 1 : Nat) : Int) := by rw [w64 _ (by omega)]; omega
    have ih := loopT L pt hp hp' hL hlen d (i + 1) (by omega) k (by omega)
    obtain ⟨n0, e0, e1, hI⟩ := hI
    have ee := etE pt
    have et2 := fun s => etE pt s (now + wt) hp
    rcases hI with ⟨rfl, rfl, rfl, rfl⟩ | ⟨rfl, rfl, rfl, rfl, rfl, g0, g1⟩ | ⟨rfl, rfl, rfl, rfl⟩
    · cases on
      · simp only [ladderbacklaw08_TimerPulses.l0, ladderbacklaw08_TimerPulses.j1, ladderbacklaw08_TimerPulses.j2, ladderbacklaw08_TimerPulses.j3, ladderbacklaw08_TimerPulses.j4, ladderbacklaw08_TimerPulses.j5, hr, hN, hP, hI1, if_pos hlt, if_pos h0, if_true, Bool.false_eq_true, if_false, Bool.not_false, Bool.not_true, tS, onE, Option.bind_some, In.tup, pA]
        refine (if_neg (show ¬ (et < 0) by omega)).trans ((if_neg (show ¬ (et > pt) by omega)).trans ?_)
        exact ih _ _ _ _ _ _ _ _ _ ⟨by omega, by omega, by omega, Or.inl ⟨rfl, rfl, rfl, rfl⟩⟩ (by omega)
      · by_cases hz : pt ≤ 0
        · have hd1 : due pt (now + wt) (now + wt) = true := by rw [dueE pt _ _ hp (by omega) (by omega) (by omega)]; exact decide_eq_true (by omega)
          have hb : decide (wrap64 (now + wt - (now + wt)) < pt) = false := by rw [w64 _ (by omega)]; exact decide_eq_false (by omega)
          simp only [ladderbacklaw08_TimerPulses.l0, ladderbacklaw08_TimerPulses.j1, ladderbacklaw08_TimerPulses.j2, ladderbacklaw08_TimerPulses.j3, ladderbacklaw08_TimerPulses.j4, ladderbacklaw08_TimerPulses.j5, hr, hN, hP, hI1, if_pos hlt, if_pos h0, if_true, Bool.false_eq_true, if_false, Bool.not_false, Bool.not_true, tS, onE, Option.bind_some, In.tup, hb, pB1 _ _ _ _ hd1]
          refine (if_neg (show ¬ (etS pt (now + wt) (now + wt) < 0) by have := et2 (now + wt); omega)).trans ((if_neg (show ¬ (etS pt (now + wt) (now + wt) > pt) by have := et2 (now + wt); omega)).trans ?_)
          exact ih _ _ _ _ _ _ _ _ _ ⟨by omega, by have := et2 (now + wt); omega, by have := et2 (now + wt); omega, Or.inr (Or.inr ⟨rfl, rfl, rfl, rfl⟩)⟩ (by omega)
        · have hd1 : due pt (now + wt) (now + wt) = false := by rw [dueE pt _ _ hp (by omega) (by omega) (by omega)]; exact decide_eq_false (by omega)
          have hb : decide (wrap64 (now + wt - (now + wt)) < pt) = true := by rw [w64 _ (by omega)]; exact decide_eq_true (by omega)
          simp only [ladderbacklaw08_TimerPulses.l0, ladderbacklaw08_TimerPulses.j1, ladderbacklaw08_TimerPulses.j2, ladderbacklaw08_TimerPulses.j3, ladderbacklaw08_TimerPulses.j4, ladderbacklaw08_TimerPulses.j5, hr, hN, hP, hI1, if_pos hlt, if_pos h0, if_true, Bool.false_eq_true, if_false, Bool.not_false, Bool.not_true, tS, onE, Option.bind_some, In.tup, hb, pB2 _ _ _ _ hd1]
          refine (if_neg (show ¬ (etS pt (now + wt) (now + wt) < 0) by have := et2 (now + wt); omega)).trans ((if_neg (show ¬ (etS pt (now + wt) (now + wt) > pt) by have := et2 (now + wt); omega)).trans ?_)
          exact ih _ _ _ _ _ _ _ _ _ ⟨by omega, by have := et2 (now + wt); omega, by have := et2 (now + wt); omega, Or.inr (Or.inl ⟨rfl, rfl, rfl, rfl, rfl, by omega, by omega⟩)⟩ (by omega)
    · by_cases hz : pt ≤ now + wt - st
      · have hd1 : due pt st (now + wt) = true := by rw [dueE pt _ _ hp (by omega) (by omega) (by omega)]; exact decide_eq_true hz
        have hb : decide (wrap64 (now + wt - st) < pt) = false := by rw [w64 _ (by omega)]; exact decide_eq_false (by omega)
        cases on
        · simp only [ladderbacklaw08_TimerPulses.l0, ladderbacklaw08_TimerPulses.j1, ladderbacklaw08_TimerPulses.j2, ladderbacklaw08_TimerPulses.j3, ladderbacklaw08_TimerPulses.j4, ladderbacklaw08_TimerPulses.j5, hr, hN, hP, hI1, if_pos hlt, if_pos h0, if_true, Bool.false_eq_true, if_false, Bool.not_false, Bool.not_true, tS, onE, Option.bind_some, In.tup, hb, pC0 _ _ _ _ hd1]
          refine (if_neg (show ¬ ((0 : Int) < 0) by omega)).trans ((if_neg (show ¬ ((0 : Int) > pt) by omega)).trans ?_)
          exact ih _ _ _ _ _ _ _ _ _ ⟨by omega, by omega, by omega, Or.inl ⟨rfl, rfl, rfl, rfl⟩⟩ (by omega)
        · simp only [ladderbacklaw08_TimerPulses.l0, ladderbacklaw08_TimerPulses.j1, ladderbacklaw08_TimerPulses.j2, ladderbacklaw08_TimerPulses.j3, ladderbacklaw08_TimerPulses.j4, ladderbacklaw08_TimerPulses.j5, hr, hN, hP, hI1, if_pos hlt, if_pos h0, if_true, Bool.false_eq_true, if_false, Bool.not_false, Bool.not_true, tS, onE, Option.bind_some, In.tup, hb, pC1 _ _ _ _ hd1]
          refine (if_neg (show ¬ (etS pt st (now + wt) < 0) by have := et2 st; omega)).trans ((if_neg (show ¬ (etS pt st (now + wt) > pt) by have := et2 st; omega)).trans ?_)
          exact ih _ _ _ _ _ _ _ _ _ ⟨by omega, by have := et2 st; omega, by have := et2 st; omega, Or.inr (Or.inr ⟨rfl, rfl, rfl, rfl⟩)⟩ (by omega)
      · have hd1 : due pt st (now + wt) = false := by rw [dueE pt _ _ hp (by omega) (by omega) (by omega)]; exact decide_eq_false hz
        have hb : decide (wrap64 (now + wt - st) < pt) = true := by rw [w64 _ (by omega)]; exact decide_eq_true (by omega)
        cases on
        · simp only [ladderbacklaw08_TimerPulses.l0, ladderbacklaw08_TimerPulses.j1, ladderbacklaw08_TimerPulses.j2, ladderbacklaw08_TimerPulses.j3, ladderbacklaw08_TimerPulses.j4, ladderbacklaw08_TimerPulses.j5, hr, hN, hP, hI1, if_pos hlt, if_pos h0, if_true, Bool.false_eq_true, if_false, Bool.not_false, Bool.not_true, tS, onE, Option.bind_some, In.tup, hb, pC _ _ _ _ _ hd1]
          refine (if_neg (show ¬ (etS pt st (now + wt) < 0) by have := et2 st; omega)).trans ((if_neg (show ¬ (etS pt st (now + wt) > pt) by have := et2 st; omega)).trans ?_)
          exact ih _ _ _ _ _ _ _ _ _ ⟨by omega, by have := et2 st; omega, by have := et2 st; omega, Or.inr (Or.inl ⟨rfl, rfl, rfl, rfl, rfl, by omega, by omega⟩)⟩ (by omega)
        · simp only [ladderbacklaw08_TimerPulses.l0, ladderbacklaw08_TimerPulses.j1, ladderbacklaw08_TimerPulses.j2, ladderbacklaw08_TimerPulses.j3, ladderbacklaw08_TimerPulses.j4, ladderbacklaw08_TimerPulses.j5, hr, hN, hP, hI1, if_pos hlt, if_pos h0, if_true, Bool.false_eq_true, if_false, Bool.not_false, Bool.not_true, tS, onE, Option.bind_some, In.tup, hb, pC _ _ _ _ _ hd1]
          refine (if_neg (show ¬ (etS pt st (now + wt) < 0) by have := et2 st; omega)).trans ((if_neg (show ¬ (etS pt st (now + wt) > pt) by have := et2 st; omega)).trans ?_)
          exact ih _ _ _ _ _ _ _ _ _ ⟨by omega, by have := et2 st; omega, by have := et2 st; omega, Or.inr (Or.inl ⟨rfl, rfl, rfl, rfl, rfl, by omega, by omega⟩)⟩ (by omega)
    · cases on
      · simp only [ladderbacklaw08_TimerPulses.l0, ladderbacklaw08_TimerPulses.j1, ladderbacklaw08_TimerPulses.j2, ladderbacklaw08_TimerPulses.j3, ladderbacklaw08_TimerPulses.j4, ladderbacklaw08_TimerPulses.j5, hr, hN, hP, hI1, if_pos hlt, if_pos h0, if_true, Bool.false_eq_true, if_false, Bool.not_false, Bool.not_true, tS, onE, Option.bind_some, In.tup, pD0]
        refine (if_neg (show ¬ ((0 : Int) < 0) by omega)).trans ((if_neg (show ¬ ((0 : Int) > pt) by omega)).trans ?_)
        exact ih _ _ _ _ _ _ _ _ _ ⟨by omega, by omega, by omega, Or.inl ⟨rfl, rfl, rfl, rfl⟩⟩ (by omega)
      · simp only [ladderbacklaw08_TimerPulses.l0, ladderbacklaw08_TimerPulses.j1, ladderbacklaw08_TimerPulses.j2, ladderbacklaw08_TimerPulses.j3, ladderbacklaw08_TimerPulses.j4, ladderbacklaw08_TimerPulses.j5, hr, hN, hP, hI1, if_pos hlt, if_pos h0, if_true, Bool.false_eq_true, if_false, Bool.not_false, Bool.not_true, tS, onE, Option.bind_some, In.tup, pD1]
        refine (if_neg (show ¬ (et < 0) by omega)).trans ((if_neg (show ¬ (et > pt) by omega)).trans ?_)
        exact ih _ _ _ _ _ _ _ _ _ ⟨by omega, by omega, by omega, Or.inr (Or.inr ⟨rfl, rfl, rfl, rfl⟩)⟩ (by omega)
theorem TimerPulses : ladderbacklaw08_TimerPulses.Pure := by
  intro y0 h0 y1 hy
  refine ⟨6 * y1.length + 1, ?_⟩
  unfold ladderbacklaw08_TimerPulses.f
  simp [Lit.wf, IntKind.min, IntKind.max, IntKind.signed, IntKind.bits] at h0
  by_cases h : (y1.length : Int) > 60
  · rw [if_pos h, awakeT]; rfl
  · rw [if_neg h, w64 y0 (by omega)]
    exact loopT y1 y0 h0.1 (by omega) hy.2 (by omega) y1.length 0 (by omega) _ (Nat.le_refl _) 0 0 false true 0 0 0 0 0 ⟨by omega, by omega, by omega, Or.inl ⟨rfl, rfl, rfl, rfl⟩⟩ (by omega)
end Go.Proofs.Ythldpihpjekleaa.Pure
