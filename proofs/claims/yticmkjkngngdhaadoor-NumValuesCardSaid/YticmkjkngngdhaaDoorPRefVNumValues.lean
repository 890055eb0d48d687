/- The reference's Literal and Value, plain. No condition. -/
import Derived.Test.YticmkjkngngdhaaDoorPCutNumValues
namespace Go.Proofs.YticmkjkngngdhaaDoor.PNumValues
open Go.Proofs.YticmkjkngngdhaaDoor Go.Proofs.YticmkjkngngdhaaDoor.QNumValues Go.RowKit Go.Proofs.YticmkjkngngdhaaDoorW.PrintWords Go.Proofs.YticmkjkngngdhaaDoorW.PrintLast
set_option linter.unusedSimpArgs false
theorem ref_In_eq (t v : Int) : ladderbackref01_In.f t v = some (inS t v) := by
  unfold ladderbackref01_In.f inS
  by_cases h6 : t = 6
  · rw [if_pos h6, if_pos h6]
  rw [if_neg h6, if_neg h6]
  unfold ladderbackref01_Right.f ladderbackref01_Low.f ladderbackref01_High.f
  by_cases h : 1 ≤ t ∧ t ≤ 6
  · have := types t h.1 h.2
    rcases this with rfl | rfl | rfl | rfl | rfl | rfl
    · by_cases hv : v ≥ 0 <;> simp [hv] <;> omega
    · by_cases hv : v ≥ -32768 <;> simp [hv] <;> omega
    · by_cases hv : v ≥ -2147483648 <;> simp [hv] <;> omega
    · by_cases hv : v ≥ 0 <;> simp [hv] <;> omega
    · by_cases hv : v ≥ 0 <;> simp [hv] <;> omega
    · exact absurd rfl h6
  · have n1 : ¬ t = 1 := by omega
    have n2 : ¬ t = 2 := by omega
    have n3 : ¬ t = 3 := by omega
    have n4 : ¬ t = 4 := by omega
    have n5 : ¬ t = 5 := by omega
    by_cases h1 : t > 0
    · rw [if_pos h1, show decide (t < 7) = false by simp; omega]; simp [n1, n2, n3, n4, n5]
    · rw [if_neg h1]; simp [n1, n2, n3, n4, n5]
theorem ref_Name_eq (t : Int) (h : 1 ≤ t) (h' : t ≤ 6) : ladderbackref01_Name.f t = some (kindNm t) := by
  rcases types t h h' with rfl | rfl | rfl | rfl | rfl | rfl <;> rfl
theorem rliteral (t v : Int) (hw : (Lit.int .i64 v).wf = true) (k : Nat) (hk : 20 ≤ k) : ladderbackref04_Literal.f k t v = some (litS t v) := by
  have hp := rprint v hw k hk
  have hl := printL_len v hw
  unfold ladderbackref04_Literal.f
  rw [ref_In_eq t v]
  simp only [Option.bind_some]
  by_cases h : inS t v = true
  · have hr := right_in t v h
    rw [if_pos h]
    unfold litS litL
    rw [if_pos h]
    by_cases h1 : t = 1
    · rw [if_pos h1, if_pos h1]
      subst h1
      have : v = 0 ∨ v = 1 := by simp [inS] at h; omega
      rcases this with rfl | rfl <;> rfl
    · rw [if_neg h1, if_neg h1]
      by_cases h6 : t = 6
      · rw [if_pos h6, if_pos h6, hp]
        simp only [Option.bind_some]
        rw [show printS v = ⟨(printL v).toArray⟩ from rfl, size_mk, if_pos (by omega)]
        rw [show (⟨#[84, 35]⟩ : ByteArray) = ⟨[84, 35].toArray⟩ from rfl, show (⟨#[109, 115]⟩ : ByteArray) = ⟨[109, 115].toArray⟩ from rfl]
        rw [app_lists, size_mk, if_pos (by simp; omega), app_lists]
      · rw [if_neg h6, if_neg h6, ref_Name_eq t hr.1 hr.2]
        simp only [Option.bind_some]
        rw [hp]
        obtain ⟨q, hq⟩ : ∃ q : List UInt8, kindNm t = ⟨q.toArray⟩ := ⟨_, nm_mk t⟩
        have hn := nm_len t
        rw [hq] at hn ⊢
        change q.length ≤ 5 at hn
        simp only [Option.bind_some]
        rw [show printS v = ⟨(printL v).toArray⟩ from rfl, size_mk, if_pos (by omega)]
        rw [show (⟨#[35]⟩ : ByteArray) = ⟨[35].toArray⟩ from rfl, app_lists, size_mk, size_mk, if_pos (by simp only [List.length_append, List.length_cons, List.length_nil]; omega), app_lists]
  · rw [if_neg h]
    unfold litS litL
    rw [if_neg h]
theorem split35 : ∀ (p a q r : List UInt8), p ++ 35 :: q = a ++ 35 :: r → 35 ∉ p → 35 ∉ a → p = a ∧ q = r
  | [], [], q, r, h, _, _ => by simp at h; exact ⟨rfl, h⟩
  | [], y :: a, q, r, h, _, ha => by simp at h; exact absurd h.1 (fun e => ha (by simp [← e]))
  | x :: p, [], q, r, h, hp, _ => by simp at h; exact absurd h.1.symm (fun e => hp (by simp [← e]))
  | x :: p, y :: a, q, r, h, hp, ha => by
    simp at h
    obtain ⟨h1, h2⟩ := split35 p a q r h.2 (fun e => hp (by simp [e])) (fun e => ha (by simp [e]))
    exact ⟨by rw [h.1, h1], h2⟩
theorem rnum (l : List UInt8) (hl : l.length ≤ 100) (e : Nat) (he : e ≤ 2) : ∀ (q p : List UInt8) (k : Nat), l = p ++ q → 35 ∉ p → q.length + 3102 ≤ k →
    ∃ n, ladderbackref04_number.l0 k ⟨l.toArray⟩ (e : Int) (p.length : Int) = some n ∧ (Lit.int .i64 n).wf = true ∧ (35 ∉ l → n = 0) ∧ (∀ a v c, l = a ++ 35 :: (printL v ++ c) → 35 ∉ a → c.length = e → (Lit.int .i64 v).wf = true → n = v) := by
  intro q
  induction q with
  | nil =>
    intro p k hp h35 hk
    obtain ⟨k, rfl⟩ : ∃ m, k = m + 1 := ⟨k - 1, by omega⟩
    have hp' : l = p := by rw [hp]; simp
    simp only [ladderbackref04_number.l0]
    rw [size_mk, w64 _ (by omega) (by omega), if_neg (by rw [hp']; omega)]
    refine ⟨0, rfl, wf_zero, fun _ => rfl, fun a v c h _ _ _ => ?_⟩
    rw [← hp', h] at h35
    exact absurd (by simp) h35
  | cons x q ih =>
    intro p k hp h35 hk
    obtain ⟨k, rfl⟩ : ∃ m, k = m + 1 := ⟨k - 1, by omega⟩
    have hlen : l.length = p.length + (q.length + 1) := by rw [hp]; simp
    have hlt : p.length < l.length := by omega
    have hget : l[p.length]'hlt = x := by simp [hp]
    simp only [ladderbackref04_number.l0]
    rw [size_mk, w64 ((l.length : Int) - e) (by omega) (by omega)]
    by_cases hi : (p.length : Int) < (l.length : Int) - e
    · rw [if_pos hi, if_pos (by omega), if_pos (by omega), bt_mk l p.length hlt, hget]
      have h48 : ((x.toNat : Int) = 35) ↔ x = 35 := by
        constructor
        · intro h; apply UInt8.toNat_inj.1; simp; omega
        · rintro rfl; rfl
      by_cases hx : x = 35
      · rw [if_pos (h48.2 hx), w64 ((p.length : Int) + 1) (by omega) (by omega), if_pos (by omega), if_pos (by omega), if_pos (by omega)]
        have e1 : ((p.length : Int) + 1).toNat = p.length + 1 := by omega
        have e2 : ((l.length : Int) - e).toNat = l.length - e := by omega
        rw [e1, e2, extract_mk]
        obtain ⟨r, hr, h1, h2⟩ := rparse_told ⟨((l.take (l.length - e)).drop (p.length + 1)).toArray⟩ (by rw [size_mk]; simp; omega) k (by omega)
        rw [hr]
        simp only [Option.bind_some]
        refine ⟨_, rfl, ?_, fun h => absurd (by rw [hp, hx]; simp) h, fun a v c h ha hc hw => ?_⟩
        · rcases h1 with rfl | ⟨n, hn, rfl, _⟩
          · exact wf_zero
          · exact hn
        · have hh : p ++ 35 :: q = a ++ 35 :: (printL v ++ c) := by rw [← h, hp, hx]
          obtain ⟨rfl, rfl⟩ := split35 _ _ _ _ hh h35 ha
          have := h2 v hw (by
            have hd : (l.take (l.length - e)).drop (p.length + 1) = printL v := by
              have hle : l.length - e = p.length + (1 + (printL v).length) := by rw [h]; simp; omega
              rw [hle, h, List.take_length_add_append, List.drop_append]
              simp [Nat.add_comm 1]
            rw [hd]; rfl)
          rw [this]
      · rw [if_neg (fun h => hx (h48.1 h))]
        have e2 : wrap64 ((p.length : Int) + 1) = (((p ++ [x]).length : Nat) : Int) := by rw [w64 _ (by omega) (by omega)]; simp
        rw [e2]
        exact ih (p ++ [x]) k (by rw [hp]; simp) (by simp [h35]; exact fun h => hx h.symm) (by simp at hk; omega)
    · rw [if_neg hi]
      refine ⟨0, rfl, wf_zero, fun _ => rfl, fun a v c h ha hc _ => ?_⟩
      exfalso
      have h1 : a.length < p.length := by rw [h] at hi; simp at hi; omega
      have h2 : l[a.length]? = some 35 := by rw [h]; simp
      have h3 : l[a.length]? = p[a.length]? := by rw [hp]; exact List.getElem?_append_left h1
      exact h35 (List.mem_of_getElem? (h3.symm.trans h2))
theorem number_of (l : List UInt8) (hl : l.length ≤ 100) (e : Nat) (he : e ≤ 2) (k : Nat) (hk : 3300 ≤ k) :
    ∃ n, ladderbackref04_number.f k ⟨l.toArray⟩ (e : Int) = some n ∧ (Lit.int .i64 n).wf = true ∧ (35 ∉ l → n = 0) ∧ (∀ a v c, l = a ++ 35 :: (printL v ++ c) → 35 ∉ a → c.length = e → (Lit.int .i64 v).wf = true → n = v) :=
  rnum l hl e he l [] k rfl (by simp) (by omega)
theorem nm35 (t : Int) : 35 ∉ (kindNm t).data.toList := by
  unfold kindNm
  repeat' split
  all_goals decide
/-- What the reference looks at a type's turn: the one value that could be it. -/
theorem cand (l : List UInt8) (t w : Int) (hl : l.length ≤ 100) (h0 : l ≠ [])
    (hc : ∀ v, (Lit.int .i64 v).wf = true → inS t v = true → litL t v = l → w = v) (hw : (Lit.int .i64 w).wf = true) (r : Int × Int × Bool)
    (hr : ToldV l r ∧ ∀ t' v', t + 1 ≤ t' → (Lit.int .i64 v').wf = true → inS t' v' = true → litL t' v' = l → r = (t', v', true)) :
    ∃ q, (if (litS t w).toList = l then (some (t, w, true)) else some r) = some q ∧ ToldV l q ∧ ∀ t' v', t ≤ t' → (Lit.int .i64 v').wf = true → inS t' v' = true → litL t' v' = l → q = (t', v', true) := by
  rw [show litS t w = ⟨(litL t w).toArray⟩ from rfl, toList_mk]
  by_cases h : litL t w = l
  · rw [if_pos h]
    have hi : inS t w = true := by
      by_cases hi : inS t w = true
      · exact hi
      · exfalso; apply h0; rw [← h]; unfold litL; rw [if_neg hi]
    refine ⟨_, rfl, .inr ⟨t, w, hw, hi, rfl, h⟩, fun t' v' _ hw' hi' h' => ?_⟩
    have b1 := nvalue_back t w hw hi 41 (by omega)
    have b2 := nvalue_back t' v' hw' hi' 41 (by omega)
    rw [h] at b1
    rw [h'] at b2
    exact Option.some.inj (b1.symm.trans b2)
  · rw [if_neg h]
    refine ⟨r, rfl, hr.1, fun t' v' ht hw' hi' h' => ?_⟩
    by_cases he : t' = t
    · subst he
      have := hc v' hw' hi' h'
      rw [this] at h
      exact absurd h' h
    · exact hr.2 t' v' (by omega) hw' hi' h'
theorem rvalue_run (l : List UInt8) (hl : l.length ≤ 100) : ∀ (d t k : Nat), 7 - t = d → 1 ≤ t → t ≤ 7 → 3 * d + 3400 ≤ k →
    ∃ r, ladderbackref04_Value.l0 k ⟨l.toArray⟩ (t : Int) = some r ∧ ToldV l r ∧ ∀ t' v', (t : Int) ≤ t' → (Lit.int .i64 v').wf = true → inS t' v' = true → litL t' v' = l → r = (t', v', true) := by
  intro d
  induction d with
  | zero =>
    intro t k hd h1 h7 hk
    obtain ⟨k, rfl⟩ : ∃ m, k = m + 1 := ⟨k - 1, by omega⟩
    simp only [ladderbackref04_Value.l0]
    rw [if_neg (by omega)]
    refine ⟨_, rfl, .inl rfl, fun t' v' ht _ hi _ => ?_⟩
    have := right_in t' v' hi
    omega
  | succ d ih =>
    intro t k hd h1 h7 hk
    obtain ⟨k, rfl⟩ : ∃ m, k = m + 3 := ⟨k - 3, by omega⟩
    obtain ⟨r, hr, hr1, hr2⟩ := ih (t + 1) k (by omega) (by omega) (by omega) (by omega)
    have hw1 : wrap64 ((t : Int) + 1) = ((t + 1 : Nat) : Int) := by rw [w64 _ (by omega) (by omega)]; omega
    have hr2' : ∀ t' v', (t : Int) + 1 ≤ t' → (Lit.int .i64 v').wf = true → inS t' v' = true → litL t' v' = l → r = (t', v', true) := fun t' v' h => hr2 t' v' (by omega)
    obtain ⟨n0, hn0, wf0, z0, g0⟩ := number_of l hl 0 (by omega) (k + 2) (by omega)
    obtain ⟨n2, hn2, wf2, _, g2⟩ := number_of l hl 2 (by omega) (k + 2) (by omega)
    have step : ∀ (w : Int) (b : Bool), (Lit.int .i64 (if b = true then 1 else w)).wf = true → (∀ v, (Lit.int .i64 v).wf = true → inS t v = true → litL t v = l → (if b = true then 1 else w) = v) →
        ∃ q, ladderbackref04_Value.j2 (k + 1) ⟨l.toArray⟩ (t : Int) w b = some q ∧ ToldV l q ∧ ∀ t' v', (t : Int) ≤ t' → (Lit.int .i64 v').wf = true → inS t' v' = true → litL t' v' = l → q = (t', v', true) := by
      intro w b hw hc
      simp only [ladderbackref04_Value.j2]
      rw [hw1, hr, toList_mk]
      by_cases h0 : l = []
      · rw [if_pos h0, if_pos h0]
        refine ⟨r, by simp, hr1, fun t' v' _ _ hi hh => ?_⟩
        rw [h0] at hh
        exact absurd hh (litL_ne t' v' hi)
      · rw [if_neg h0, if_neg h0]
        cases b
        · simp only [Bool.false_eq_true, if_false] at hw hc ⊢
          rw [rliteral t w hw k (by omega)]
          exact cand l t w hl h0 hc hw r ⟨hr1, hr2'⟩
        · simp only [if_true] at hw hc ⊢
          rw [rliteral t 1 hw k (by omega)]
          exact cand l t 1 hl h0 hc hw r ⟨hr1, hr2'⟩
    simp only [ladderbackref04_Value.l0]
    rw [if_pos (by omega), show (0 : Int) = ((0 : Nat) : Int) from rfl, hn0]
    simp only [Option.bind_some]
    by_cases h6 : t = 6
    · rw [if_pos (by omega), show (2 : Int) = ((2 : Nat) : Int) from rfl, hn2]
      simp only [Option.bind_some, ladderbackref04_Value.j1]
      rw [if_neg (by omega)]
      refine step n2 false wf2 fun v hw hi hh => ?_
      simp only [Bool.false_eq_true, if_false]
      subst h6
      exact g2 [84] v [109, 115] (by rw [← hh]; exact litL_time v) (by decide) rfl hw
    · rw [if_neg (by omega)]
      simp only [ladderbackref04_Value.j1]
      rw [toList_mk]
      by_cases ht1 : t = 1
      · subst ht1
        rw [if_pos (by rfl)]
        refine step n0 _ ?_ fun v hw hi hh => ?_
        · split
          · decide
          · exact wf0
        · have : v = 0 ∨ v = 1 := by simp [inS] at hi; omega
          rcases this with rfl | rfl
          · have hf : l = [70, 65, 76, 83, 69] := by rw [← hh]; decide
            rw [z0 (by rw [hf]; decide), hf]
            decide
          · have hf : l = [84, 82, 85, 69] := by rw [← hh]; decide
            rw [hf]
            rfl
      · rw [if_neg (by omega)]
        refine step n0 false wf0 fun v hw hi hh => ?_
        simp only [Bool.false_eq_true, if_false]
        exact g0 _ v [] (by rw [← hh, litL_mid t v hi (by omega) (by omega)]; simp) (nm35 t) rfl hw
theorem value_same (s : ByteArray) (hs : s.size ≤ 100) (k : Nat) (hk : 3500 ≤ k) : ∃ r, num_Value.f k s = some r ∧ ladderbackref04_Value.f k s = some r := by
  obtain ⟨⟨l⟩⟩ := s
  have hl : l.length ≤ 100 := by simpa [ByteArray.size] using hs
  obtain ⟨r, h1, h2⟩ := nvalue_told l (by omega) k (by omega)
  obtain ⟨q, g1, g2, g3⟩ := rvalue_run l hl 6 1 k rfl (by omega) (by omega) (by omega)
  refine ⟨r, h1, ?_⟩
  have e : q = r := by
    rcases h2 with rfl | ⟨t, v, hw, hi, rfl, hh⟩
    · rcases g2 with rfl | ⟨t, v, hw, hi, rfl, hh⟩
      · rfl
      · have := nvalue_back t v hw hi k (by omega)
        rw [hh, h1] at this
        exact (Option.some.inj this).symm
    · exact g3 t v (by have := right_in t v hi; omega) hw hi hh
  rw [← e]
  exact g1
end Go.Proofs.YticmkjkngngdhaaDoor.PNumValues
