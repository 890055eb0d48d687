/- A program's scope comes to its end where the program is small, and so does the count of an expression's parts; plain. No condition. -/
import Derived.Test.YtfioegoeeflkbaaDoorPtExprTypes
namespace Go.Proofs.YtfioegoeeflkbaaDoor.PsExprTypes
open Go.Proofs.YtfioegoeeflkbaaDoor Go.Proofs.YtfioegoeeflkbaaDoor.QExprTypes Go.Proofs.YtfioegoeeflkbaaDoor.PtExprTypes Go.RowKit Go.Proofs.YtfioegoeeflkbaaDoorW.PrintWords Go.Proofs.YtfioegoeeflkbaaDoorW.PrintLast Go.Proofs.YtfioegoeeflkbaaDoorW.PrintMore
set_option linter.unusedSimpArgs false
set_option linter.unusedVariables false
/-! ### few parts -/
theorem room_ev : ∀ (N : Nat) (x : S30), SizeOf.sizeOf x ≤ N → W30 x → ∀ (a d : Int), -1 ≤ a → a ≤ 1000000 → -1 ≤ d → d ≤ 1000000 → ∃ r : Int, Ev (fun k => ladderbackref26_Room.f k x.f0 x.f1 x.f2 x.f3 x.f4 a d) r ∧ -1 ≤ r ∧ r ≤ 1000000 ∧ (0 ≤ r → r + cntS x = a) := by
  intro N
  induction N with
  | zero => intro x h; exact absurd h (by have := sz_pos x; omega)
  | succ N ih =>
    intro x hN hx a d ha1 ha2 hd1 hd2
    have hm := len_w hx
    by_cases hs : a < 1 ∨ d < 1
    · refine ⟨-1, ⟨2, fun k hk => ?_⟩, by omega, by omega, fun h => absurd h (by omega)⟩
      obtain ⟨k, rfl⟩ : ∃ m, k = m + 1 + 1 := ⟨k - 2, by omega⟩
      simp only [ladderbackref26_Room.f, ladderbackref26_Room.j0]
      by_cases h1 : a < 1
      · rw [if_pos h1]; rfl
      · rw [if_neg h1, decide_eq_true (show d < 1 by omega)]; rfl
    have loop : ∀ (e i : Nat) (b : Int), x.f4.length - i = e → i ≤ x.f4.length → 0 ≤ b → b ≤ 1000000 → ∃ r : Int, Ev (fun k => ladderbackref26_Room.l0 k b d (i : Int) x.f0 x.f1 x.f2 x.f3 x.f4) r ∧ -1 ≤ r ∧ r ≤ 1000000 ∧ (0 ≤ r → r + cntL (x.f4.drop i) = b) := by
      intro e
      induction e with
      | zero =>
        intro i b he hi hb hb2
        refine ⟨b, ⟨1, fun k hk => ?_⟩, by omega, hb2, fun _ => by rw [List.drop_of_length_le (by omega)]; simp [cntL]⟩
        obtain ⟨k, rfl⟩ : ∃ m, k = m + 1 := ⟨k - 1, by omega⟩
        simp only [ladderbackref26_Room.l0]
        rw [if_neg (by omega)]
      | succ e ihe =>
        intro i b he hi hb hb2
        have hlt : i < x.f4.length := by omega
        obtain ⟨r1, ⟨K1, h1⟩, hr1, hr1', hr2⟩ := ih x.f4[i] (by have := kid_lt x i hlt; omega) (kid_w hx i hlt) b (d - 1) (by omega) hb2 (by omega) (by omega)
        simp only at h1
        by_cases hneg : r1 < 0
        · refine ⟨-1, ⟨K1 + 1, fun k hk => ?_⟩, by omega, by omega, fun h => absurd h (by omega)⟩
          obtain ⟨k, rfl⟩ : ∃ m, k = m + 1 := ⟨k - 1, by omega⟩
          simp only [ladderbackref26_Room.l0]
          rw [if_pos (by omega), if_pos (by omega), rd_at _ i hlt, wrap_id (d - 1) (by omega) (by omega), h1 k (by omega)]
          simp only [Option.bind_some]
          rw [if_pos hneg]
        · obtain ⟨r, ⟨K2, h2⟩, hr3, hr3', hr4⟩ := ihe (i + 1) r1 (by omega) (by omega) (by omega) hr1'
          simp only at h2
          refine ⟨r, ⟨max K1 K2 + 1, fun k hk => ?_⟩, hr3, hr3', fun h => ?_⟩
          · obtain ⟨k, rfl⟩ : ∃ m, k = m + 1 := ⟨k - 1, by omega⟩
            simp only [ladderbackref26_Room.l0]
            rw [if_pos (by omega), if_pos (by omega), rd_at _ i hlt, wrap_id (d - 1) (by omega) (by omega), h1 k (by omega)]
            simp only [Option.bind_some]
            rw [if_neg hneg, next_i _ i hlt hm, h2 k (by omega)]
          · have := hr4 h
            have := hr2 (by omega)
            rw [List.drop_eq_getElem_cons hlt]
            simp only [cntL]
            omega
    obtain ⟨r, ⟨K, h⟩, hr1, hr1', hr2⟩ := loop x.f4.length 0 (a - 1) (by omega) (by omega) (by omega) (by omega)
    simp only at h
    refine ⟨r, ⟨K + 2, fun k hk => ?_⟩, hr1, hr1', fun h0 => ?_⟩
    · obtain ⟨k, rfl⟩ : ∃ m, k = m + 1 + 1 := ⟨k - 2, by omega⟩
      simp only [ladderbackref26_Room.f, ladderbackref26_Room.j0]
      rw [if_neg (by omega), decide_eq_false (by omega), if_neg (by decide), wrap_id (a - 1) (by omega) (by omega)]
      exact h k (by omega)
    · have := hr2 h0
      rw [cntS_eq]
      rw [List.drop_zero] at this
      omega
theorem few_ev (x : S30) (hx : W30 x) (a : Int) (ha : 0 ≤ a) (ha2 : a ≤ 1000000) : ∃ b : Bool, Ev (fun k => ladderbackref26_Few.f k x.f0 x.f1 x.f2 x.f3 x.f4 a) b ∧ (b = true → (cntS x : Int) ≤ a) := by
  obtain ⟨r, ⟨K, h⟩, h1, h1', h2⟩ := room_ev _ x (Nat.le_refl _) hx a 40 (by omega) ha2 (by omega) (by omega)
  simp only at h
  refine ⟨decide (r ≥ 0), ⟨K, fun k hk => ?_⟩, fun hb => ?_⟩
  · simp only [ladderbackref26_Few.f]
    rw [h k hk]; rfl
  · have := h2 (of_decide_eq_true hb)
    have := of_decide_eq_true hb
    omega
/-! ### a small program -/
def unitOk (u : S96) : Prop := u.f1.length ≤ 20 ∧ u.f3.length ≤ 1100 ∧ u.f4.length ≤ 300
theorem ufew (u : S96) : ∃ b : Bool, ladderbacklaw15_Few.f u.f0 u.f1 u.f2 u.f3 u.f4 = some b ∧ (b = true → unitOk u) := by
  unfold ladderbacklaw15_Few.f unitOk
  by_cases h1 : (u.f0.size : Int) ≤ 300
  · by_cases h2 : (u.f1.length : Int) ≤ 20
    · by_cases h3 : (u.f3.length : Int) ≤ 1100
      · refine ⟨decide ((u.f4.length : Int) ≤ 300), by rw [if_pos h1, if_pos h2, if_pos h3], fun h => ?_⟩
        have := of_decide_eq_true h
        omega
      · exact ⟨false, by rw [if_pos h1, if_pos h2, if_neg h3], fun h => by cases h⟩
    · exact ⟨false, by rw [if_pos h1, if_neg h2], fun h => by cases h⟩
  · exact ⟨false, by rw [if_neg h1], fun h => by cases h⟩
def ProgOk (a : List S42) (b : List S44) (c : List S96) : Prop := a.length ≤ 70 ∧ b.length ≤ 40 ∧ c.length ≤ 10 ∧ ∀ u ∈ c, unitOk u
theorem rd_atU (l : List S96) (i : Nat) (h : i < l.length) : rd_T96 l (i : Int) = l[i] := by simp [rd_T96, List.getD_eq_getElem?_getD, List.getElem?_eq_getElem h]
theorem pfew_ev (p : List S82) (a : List S42) (b : List S44) (c : List S96) : ∃ r : Bool, Ev (fun k => ladderbacklaw16_Few.f k p a b c) r ∧ (r = true → ProgOk a b c) := by
  have hfalse : ∀ (P : Prop), (false = true → P) := fun _ h => by cases h
  by_cases h1 : (p.length : Int) > 60
  · refine ⟨false, ⟨1, fun k hk => ?_⟩, hfalse _⟩
    obtain ⟨k, rfl⟩ : ∃ m, k = m + 1 := ⟨k - 1, by omega⟩
    simp only [ladderbacklaw16_Few.f, ladderbacklaw16_Few.j0]; rw [if_pos h1]; rfl
  by_cases h2 : (a.length : Int) > 70
  · refine ⟨false, ⟨1, fun k hk => ?_⟩, hfalse _⟩
    obtain ⟨k, rfl⟩ : ∃ m, k = m + 1 := ⟨k - 1, by omega⟩
    simp only [ladderbacklaw16_Few.f, ladderbacklaw16_Few.j0]; rw [if_neg h1, if_pos h2]; rfl
  by_cases h3 : (b.length : Int) > 40
  · refine ⟨false, ⟨1, fun k hk => ?_⟩, hfalse _⟩
    obtain ⟨k, rfl⟩ : ∃ m, k = m + 1 := ⟨k - 1, by omega⟩
    simp only [ladderbacklaw16_Few.f, ladderbacklaw16_Few.j0]; rw [if_neg h1, if_neg h2, if_pos h3]; rfl
  by_cases h4 : (c.length : Int) > 10
  · refine ⟨false, ⟨1, fun k hk => ?_⟩, hfalse _⟩
    obtain ⟨k, rfl⟩ : ∃ m, k = m + 1 := ⟨k - 1, by omega⟩
    simp only [ladderbacklaw16_Few.f, ladderbacklaw16_Few.j0]; rw [if_neg h1, if_neg h2, if_neg h3, decide_eq_true h4]; rfl
  have loop2 : ∀ (e i : Nat), c.length - i = e → i ≤ c.length → ∃ r : Bool, Ev (fun k => ladderbacklaw16_Few.l2 k (i : Int) p a b c) r ∧ (r = true → ∀ u ∈ c.drop i, unitOk u) := by
    intro e
    induction e with
    | zero =>
      intro i he hi
      refine ⟨true, ⟨1, fun k hk => ?_⟩, fun _ u hu => by rw [List.drop_of_length_le (by omega)] at hu; cases hu⟩
      obtain ⟨k, rfl⟩ : ∃ m, k = m + 1 := ⟨k - 1, by omega⟩
      simp only [ladderbacklaw16_Few.l2]
      rw [if_neg (by omega)]
    | succ e ihe =>
      intro i he hi
      have hlt : i < c.length := by omega
      obtain ⟨b1, hb1, hb2⟩ := ufew c[i]
      cases b1 with
      | false =>
        refine ⟨false, ⟨1, fun k hk => ?_⟩, hfalse _⟩
        obtain ⟨k, rfl⟩ : ∃ m, k = m + 1 := ⟨k - 1, by omega⟩
        simp only [ladderbacklaw16_Few.l2]
        rw [if_pos (by omega), if_pos (by omega), rd_atU _ i hlt, hb1]
        rfl
      | true =>
        obtain ⟨r, ⟨K, h⟩, hr⟩ := ihe (i + 1) (by omega) (by omega)
        simp only at h
        refine ⟨r, ⟨K + 1, fun k hk => ?_⟩, fun h' u hu => ?_⟩
        · obtain ⟨k, rfl⟩ : ∃ m, k = m + 1 := ⟨k - 1, by omega⟩
          simp only [ladderbacklaw16_Few.l2]
          rw [if_pos (by omega), if_pos (by omega), rd_atU _ i hlt, hb1]
          simp only [Option.bind_some, if_true]
          rw [next_i _ i hlt (by omega), h k (by omega)]
        · rw [List.drop_eq_getElem_cons hlt] at hu
          rcases List.mem_cons.1 hu with rfl | hu
          · exact hb2 rfl
          · exact hr h' u hu
  obtain ⟨r2, ⟨K2, e2⟩, hr2⟩ := loop2 c.length 0 (by omega) (by omega)
  simp only at e2
  have loop1 : ∀ (e i : Nat), b.length - i = e → i ≤ b.length → ∃ r : Bool, Ev (fun k => ladderbacklaw16_Few.l1 k (i : Int) p a b c) r ∧ (r = true → r2 = true) := by
    intro e
    induction e with
    | zero =>
      intro i he hi
      refine ⟨r2, ⟨K2 + 1, fun k hk => ?_⟩, id⟩
      obtain ⟨k, rfl⟩ : ∃ m, k = m + 1 := ⟨k - 1, by omega⟩
      simp only [ladderbacklaw16_Few.l1]
      rw [if_neg (by omega)]
      exact e2 k (by omega)
    | succ e ihe =>
      intro i he hi
      by_cases hs : (((rd_T44 b (i : Int)).f0).size : Int) > 300
      · refine ⟨false, ⟨1, fun k hk => ?_⟩, hfalse _⟩
        obtain ⟨k, rfl⟩ : ∃ m, k = m + 1 := ⟨k - 1, by omega⟩
        simp only [ladderbacklaw16_Few.l1]
        rw [if_pos (by omega), if_pos (by omega), if_pos hs]
      · obtain ⟨r, ⟨K, h⟩, hr⟩ := ihe (i + 1) (by omega) (by omega)
        simp only at h
        refine ⟨r, ⟨K + 1, fun k hk => ?_⟩, hr⟩
        obtain ⟨k, rfl⟩ : ∃ m, k = m + 1 := ⟨k - 1, by omega⟩
        simp only [ladderbacklaw16_Few.l1]
        rw [if_pos (by omega), if_pos (by omega), if_neg hs, next_i b i (by omega) (by omega), h k (by omega)]
  obtain ⟨r1, ⟨K1, e1⟩, hr1⟩ := loop1 b.length 0 (by omega) (by omega)
  simp only at e1
  have loop0 : ∀ (e i : Nat), a.length - i = e → i ≤ a.length → ∃ r : Bool, Ev (fun k => ladderbacklaw16_Few.l0 k (i : Int) p a b c) r ∧ (r = true → r1 = true) := by
    intro e
    induction e with
    | zero =>
      intro i he hi
      refine ⟨r1, ⟨K1 + 1, fun k hk => ?_⟩, id⟩
      obtain ⟨k, rfl⟩ : ∃ m, k = m + 1 := ⟨k - 1, by omega⟩
      simp only [ladderbacklaw16_Few.l0]
      rw [if_neg (by omega)]
      exact e1 k (by omega)
    | succ e ihe =>
      intro i he hi
      by_cases hs : (((rd_T42 a (i : Int)).f0).size : Int) > 300
      · refine ⟨false, ⟨1, fun k hk => ?_⟩, hfalse _⟩
        obtain ⟨k, rfl⟩ : ∃ m, k = m + 1 := ⟨k - 1, by omega⟩
        simp only [ladderbacklaw16_Few.l0]
        rw [if_pos (by omega), if_pos (by omega), if_pos hs]
      · obtain ⟨r, ⟨K, h⟩, hr⟩ := ihe (i + 1) (by omega) (by omega)
        simp only at h
        refine ⟨r, ⟨K + 1, fun k hk => ?_⟩, hr⟩
        obtain ⟨k, rfl⟩ : ∃ m, k = m + 1 := ⟨k - 1, by omega⟩
        simp only [ladderbacklaw16_Few.l0]
        rw [if_pos (by omega), if_pos (by omega), if_neg hs, next_i a i (by omega) (by omega), h k (by omega)]
  obtain ⟨r0, ⟨K0, e0⟩, hr0⟩ := loop0 a.length 0 (by omega) (by omega)
  simp only at e0
  refine ⟨r0, ⟨K0 + 1, fun k hk => ?_⟩, fun h => ⟨by omega, by omega, by omega, fun u hu => hr2 (hr1 (hr0 h)) u (by rw [List.drop_zero]; exact hu)⟩⟩
  obtain ⟨k, rfl⟩ : ∃ m, k = m + 1 := ⟨k - 1, by omega⟩
  simp only [ladderbacklaw16_Few.f, ladderbacklaw16_Few.j0]
  rw [if_neg h1, if_neg h2, if_neg h3, decide_eq_false h4, if_neg (by decide)]
  exact e0 k (by omega)
/-! ### its scope -/
theorem slots_ev (u : S96) (hu : unitOk u) : ∃ s : List Int, Ev (fun k => ladderbackref15_Slots.f k u.f0 u.f1 u.f2 u.f3 u.f4) s ∧ s.length ≤ 2000 := by
  obtain ⟨h1, h2, _⟩ := hu
  have loop : ∀ (e i : Nat) (s : List Int), u.f3.length - i = e → i ≤ u.f3.length → s.length ≤ 800 + i → ∃ r : List Int, Ev (fun k => ladderbackref15_Slots.l0 k s (i : Int) u.f0 u.f1 u.f2 u.f3 u.f4) r ∧ r.length ≤ 2000 := by
    intro e
    induction e with
    | zero =>
      intro i s he hi hs
      refine ⟨s, ⟨1, fun k hk => ?_⟩, by omega⟩
      obtain ⟨k, rfl⟩ : ∃ m, k = m + 1 := ⟨k - 1, by omega⟩
      simp only [ladderbackref15_Slots.l0]
      rw [if_neg (by omega)]
    | succ e ihe =>
      intro i s he hi hs
      obtain ⟨r, ⟨K, h⟩, hr⟩ := ihe (i + 1) (s ++ [rd u.f3 (i : Int)]) (by omega) (by omega) (by simp; omega)
      simp only at h
      refine ⟨r, ⟨K + 1, fun k hk => ?_⟩, hr⟩
      obtain ⟨k, rfl⟩ : ∃ m, k = m + 1 := ⟨k - 1, by omega⟩
      simp only [ladderbackref15_Slots.l0]
      rw [if_pos (by omega), if_pos (by omega), if_pos (by omega), next_i u.f3 i (by omega) (by omega)]
      exact h k (by omega)
  by_cases h0 : u.f2 = 0
  · obtain ⟨r, ⟨K, h⟩, hr⟩ := loop u.f3.length 0 u.f1 (by omega) (by omega) (by omega)
    simp only at h
    refine ⟨r, ⟨K + 1, fun k hk => ?_⟩, hr⟩
    obtain ⟨k, rfl⟩ : ∃ m, k = m + 1 := ⟨k - 1, by omega⟩
    simp only [ladderbackref15_Slots.f, ladderbackref15_Slots.j0, Option.bind_some]
    rw [if_pos (by simp; omega), if_pos h0, List.nil_append]
    exact h k (by omega)
  · obtain ⟨r, ⟨K, h⟩, hr⟩ := loop u.f3.length 0 (u.f1 ++ [u.f2]) (by omega) (by omega) (by simp; omega)
    simp only at h
    refine ⟨r, ⟨K + 1, fun k hk => ?_⟩, hr⟩
    obtain ⟨k, rfl⟩ : ∃ m, k = m + 1 := ⟨k - 1, by omega⟩
    simp only [ladderbackref15_Slots.f, ladderbackref15_Slots.j0, Option.bind_some]
    rw [if_pos (by simp; omega), if_neg h0, List.nil_append, if_pos (by omega)]
    exact h k (by omega)
theorem scope_ev (p : List S82) (a : List S42) (b : List S44) (c : List S96) (hok : ProgOk a b c) (u : Int) : ∃ (sg : List S99) (sl : List Int), Ev (fun k => ladderbackref17_Scope.f k p a b c u) (a, b, sg, sl) ∧ sg.length ≤ 10 ∧ sl.length ≤ 2000 := by
  obtain ⟨h1, h2, h3, h4⟩ := hok
  have loop : ∀ (e i : Nat) (sg : List S99) (sl : List Int), c.length - i = e → i ≤ c.length → sg.length ≤ i → sl.length ≤ 2000 → ∃ (sg' : List S99) (sl' : List Int), Ev (fun k => ladderbackref17_Scope.l0 k u (i : Int) p a b c a b sg sl) (a, b, sg', sl') ∧ sg'.length ≤ 10 ∧ sl'.length ≤ 2000 := by
    intro e
    induction e with
    | zero =>
      intro i sg sl he hi hs hl
      refine ⟨sg, sl, ⟨1, fun k hk => ?_⟩, by omega, hl⟩
      obtain ⟨k, rfl⟩ : ∃ m, k = m + 1 := ⟨k - 1, by omega⟩
      simp only [ladderbackref17_Scope.l0]
      rw [if_neg (by omega)]
    | succ e ihe =>
      intro i sg sl he hi hs hl
      have hlt : i < c.length := by omega
      obtain ⟨s, ⟨K1, hs1⟩, hs2⟩ := slots_ev c[i] (h4 _ (List.getElem_mem hlt))
      simp only at hs1
      by_cases hu : (i : Int) = u
      · obtain ⟨sg', sl', ⟨K, h⟩, hr⟩ := ihe (i + 1) (sg ++ [⟨(c[i]).f1, (c[i]).f2⟩]) s (by omega) (by omega) (by simp; omega) hs2
        simp only at h
        refine ⟨sg', sl', ⟨max K K1 + 1, fun k hk => ?_⟩, hr⟩
        obtain ⟨k, rfl⟩ : ∃ m, k = m + 1 := ⟨k - 1, by omega⟩
        simp only [ladderbackref17_Scope.l0]
        rw [if_pos (by omega), if_pos (by omega), if_pos (by omega)]
        simp only [Option.bind_some]
        rw [if_pos hu, rd_atU _ i hlt, hs1 k (by omega)]
        simp only [Option.bind_some]
        rw [next_i c i hlt (by omega)]
        exact h k (by omega)
      · obtain ⟨sg', sl', ⟨K, h⟩, hr⟩ := ihe (i + 1) (sg ++ [⟨(c[i]).f1, (c[i]).f2⟩]) sl (by omega) (by omega) (by simp; omega) hl
        simp only at h
        refine ⟨sg', sl', ⟨K + 1, fun k hk => ?_⟩, hr⟩
        obtain ⟨k, rfl⟩ : ∃ m, k = m + 1 := ⟨k - 1, by omega⟩
        simp only [ladderbackref17_Scope.l0]
        rw [if_pos (by omega), if_pos (by omega), if_pos (by omega)]
        simp only [Option.bind_some]
        rw [if_neg hu, rd_atU _ i hlt, next_i c i hlt (by omega)]
        exact h k (by omega)
  obtain ⟨sg, sl, ⟨K, h⟩, hr⟩ := loop c.length 0 [] [] (by omega) (by omega) (by simp) (by simp)
  simp only at h
  refine ⟨sg, sl, ⟨K, fun k hk => ?_⟩, hr⟩
  simp only [ladderbackref17_Scope.f]
  exact h k hk
end Go.Proofs.YtfioegoeeflkbaaDoor.PsExprTypes
