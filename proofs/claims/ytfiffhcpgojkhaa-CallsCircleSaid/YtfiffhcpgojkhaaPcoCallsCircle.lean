/- calls.Of, calls.Order, ref21.Calls; plain. No condition. -/
import Derived.Test.YtfiffhcpgojkhaaQCallsCirclex
import Derived.Test.YtfiffhcpgojkhaaPdC
namespace Go.Proofs.Ytfiffhcpgojkhaa.PcoCallsCircle
open Go.Proofs.Ytfiffhcpgojkhaa Go.Proofs.Ytfiffhcpgojkhaa.QCallsCircle Go.Proofs.Ytfiffhcpgojkhaa.PdC Go.RowKit Go.Proofs.YtfiffhcpgojkhaaW.PrintWords Go.Proofs.YtfiffhcpgojkhaaW.PrintLast Go.Proofs.YtfiffhcpgojkhaaW.PrintMore
set_option linter.unusedSimpArgs false
set_option linter.unusedVariables false
theorem sortc {L : List Int} (h : L.length ≤ 100000) : ((slices_Sort_int_int.f L).bind fun t => (slices_Compact_int_int.f t).bind fun u => some u) = some (sc L) := by
  unfold slices_Sort_int_int.f
  rw [if_pos (by omega)]
  simp only [Option.bind_some]
  unfold slices_Compact_int_int.f
  rw [if_pos (by rw [List.length_mergeSort]; omega)]
  rfl
theorem drop_44 (L : List S44) (j : Nat) (h : j < L.length) : L.drop j = rd_T44 L (j : Int) :: L.drop (j + 1) := by
  rw [List.drop_eq_getElem_cons h]
  simp [rd_T44, h]
def Ok (l : List S69) : Prop := l.length ≤ 21 ∧ ∀ u : Nat, u < l.length → (rd_T69 l (u : Int)).f4.length ≤ 300
def isC (t : Int) (y : S44) : Bool := decide (y.f0 = 33) && decide (y.f1 = t)
def edge (l : List S69) (u t : Nat) : Bool := (rd_T69 l (u : Int)).f4.any (isC (t : Int))
def row (l : List S69) (u : Nat) : List Int := ((List.range l.length).filter fun t => edge l u t).map fun t : Nat => (t : Int)
theorem row_len (l : List S69) (u : Nat) : (row l u).length ≤ l.length := by
  unfold row
  rw [List.length_map]
  refine Nat.le_trans (List.length_filter_le _ _) ?_
  simp
theorem row_mem (l : List S69) (u : Nat) (x : Int) : x ∈ row l u ↔ ∃ t : Nat, t < l.length ∧ edge l u t = true ∧ (t : Int) = x := by
  unfold row
  rw [List.mem_map]
  constructor
  · rintro ⟨t, ht, rfl⟩
    have h := List.mem_filter.mp ht
    exact ⟨t, List.mem_range.mp h.1, h.2, rfl⟩
  · rintro ⟨t, h1, h2, rfl⟩
    exact ⟨t, List.mem_filter.mpr ⟨List.mem_range.mpr h1, h2⟩, rfl⟩
theorem few_ev (l : List S69) : Ev (fun k => ladderbacklaw21_few.f k l) false ∨ (Ok l ∧ Ev (fun k => ladderbacklaw21_few.f k l) true) := by
  have key : ∀ r i : Nat, i + r = l.length → (i ≤ 21) → (∀ u : Nat, u < i → (rd_T69 l (u : Int)).f4.length ≤ 300) → Ev (fun k => ladderbacklaw21_few.l0 k l (i : Int)) false ∨ (Ok l ∧ Ev (fun k => ladderbacklaw21_few.l0 k l (i : Int)) true) := by
    intro r
    induction r with
    | zero =>
      intro i hi h21 h
      refine .inr ⟨⟨by omega, fun u hu => h u (by omega)⟩, 1, fun k hk => ?_⟩
      obtain ⟨k, rfl⟩ : ∃ m, k = m + 1 := ⟨k - 1, by omega⟩
      simp only [ladderbacklaw21_few.l0]
      rw [if_neg (by omega)]
    | succ r ih =>
      intro i hi h21 h
      by_cases c1 : (i : Int) > 20
      · refine .inl ⟨1, fun k hk => ?_⟩
        obtain ⟨k, rfl⟩ : ∃ m, k = m + 1 := ⟨k - 1, by omega⟩
        simp only [ladderbacklaw21_few.l0]
        rw [if_pos (by omega), if_pos c1]
      · by_cases c2 : ((rd_T69 l (i : Int)).f4.length : Int) > 300
        · refine .inl ⟨1, fun k hk => ?_⟩
          obtain ⟨k, rfl⟩ : ∃ m, k = m + 1 := ⟨k - 1, by omega⟩
          simp only [ladderbacklaw21_few.l0]
          rw [if_pos (by omega), if_neg c1, if_pos (by omega), if_pos c2]
        · have step : ∀ b : Bool, Ev (fun k => ladderbacklaw21_few.l0 k l ((i + 1 : Nat) : Int)) b → Ev (fun k => ladderbacklaw21_few.l0 k l (i : Int)) b := by
            intro b hb
            obtain ⟨K, g⟩ := hb
            simp only at g
            refine ⟨K + 1, fun k hk => ?_⟩
            obtain ⟨k, rfl⟩ : ∃ m, k = m + 1 := ⟨k - 1, by omega⟩
            simp only [ladderbacklaw21_few.l0]
            rw [if_pos (by omega), if_neg c1, if_pos (by omega), if_neg c2, wnext i (by omega)]
            exact g k (by omega)
          rcases ih (i + 1) (by omega) (by omega) (fun u hu => by
            by_cases e : u = i
            · subst e; omega
            · exact h u (by omega)) with h1 | ⟨h1, h2⟩
          · exact .inl (step _ h1)
          · exact .inr ⟨h1, step _ h2⟩
  have h := key l.length 0 (by omega) (by omega) (fun u hu => by omega)
  exact h
theorem calls_ev (l : List S69) (ok : Ok l) (u t : Nat) (hu : u < l.length) : Ev (fun k => ladderbackref21_Calls.f k l (u : Int) (t : Int)) (edge l u t) := by
  have h := ok.2 u hu
  have key : ∀ r i : Nat, i + r = (rd_T69 l (u : Int)).f4.length → Ev (fun k => ladderbackref21_Calls.l0 k l (u : Int) (t : Int) (i : Int)) (((rd_T69 l (u : Int)).f4.drop i).any (isC (t : Int))) := by
    intro r
    induction r with
    | zero =>
      intro i hi
      refine ⟨1, fun k hk => ?_⟩
      obtain ⟨k, rfl⟩ : ∃ m, k = m + 1 := ⟨k - 1, by omega⟩
      simp only [ladderbackref21_Calls.l0]
      rw [if_pos (by omega), if_pos (by omega), if_neg (by omega), List.drop_eq_nil_of_le (by omega)]
      rfl
    | succ r ih =>
      intro i hi
      obtain ⟨K, g⟩ := ih (i + 1) (by omega)
      simp only at g
      refine ⟨K + 1, fun k hk => ?_⟩
      obtain ⟨k, rfl⟩ : ∃ m, k = m + 1 := ⟨k - 1, by omega⟩
      simp only [ladderbackref21_Calls.l0]
      rw [if_pos (by omega), if_pos (by omega), if_pos (by omega), if_pos (by omega), drop_44 _ i (by omega), List.any_cons, wnext i (by omega)]
      by_cases c1 : (rd_T44 (rd_T69 l (u : Int)).f4 (i : Int)).f0 = 33
      · rw [if_pos c1]
        by_cases c2 : (rd_T44 (rd_T69 l (u : Int)).f4 (i : Int)).f1 = (t : Int)
        · rw [if_pos c2]; simp [isC, c1, c2]
        · rw [if_neg c2, g k (by omega)]; simp [isC, c2]
      · rw [if_neg c1, g k (by omega)]; simp [isC, c1]
  exact key _ 0 (Nat.zero_add _)
def goodC (n : Nat) (y : S44) : Bool := decide (y.f0 = 33) && (decide (0 ≤ y.f1) && decide (y.f1 < (n : Int)))
def rawL (n : Nat) (L : List S44) : List Int := (L.filter (goodC n)).map fun y => y.f1
theorem raw_row (l : List S69) (u : Nat) : sc (rawL l.length (rd_T69 l (u : Int)).f4) = row l u := by
  refine rise_eq _ _ (sc_rise _) (range_rise _ _) fun y => ?_
  have e : (y ∈ ((List.range l.length).filter fun t => edge l u t).map fun t : Nat => (t : Int)) ↔ _ := row_mem l u y
  rw [sc_mem]
  refine Iff.trans ?_ e.symm
  unfold rawL
  rw [List.mem_map]
  constructor
  · rintro ⟨z, hz, rfl⟩
    have h := List.mem_filter.mp hz
    have hg := h.2
    simp only [goodC, Bool.and_eq_true, decide_eq_true_eq] at hg
    refine ⟨z.f1.toNat, by omega, ?_, by omega⟩
    unfold edge
    rw [List.any_eq_true]
    refine ⟨z, h.1, ?_⟩
    simp only [isC, Bool.and_eq_true, decide_eq_true_eq]
    exact ⟨hg.1, by omega⟩
  · rintro ⟨t, ht, he, rfl⟩
    unfold edge at he
    rw [List.any_eq_true] at he
    obtain ⟨z, hz, hc⟩ := he
    simp only [isC, Bool.and_eq_true, decide_eq_true_eq] at hc
    refine ⟨z, List.mem_filter.mpr ⟨hz, ?_⟩, hc.2⟩
    simp only [goodC, Bool.and_eq_true, decide_eq_true_eq]
    exact ⟨hc.1, by omega, by omega⟩
theorem of_ev (l : List S69) (ok : Ok l) (u : Nat) (hu : u < l.length) : Ev (fun k => calls_Of.f k l (u : Int)) (row l u) := by
  have h := ok.2 u hu
  rw [← raw_row]
  have key : ∀ (r i : Nat) (acc : List Int), i + r = (rd_T69 l (u : Int)).f4.length → acc.length ≤ i → Ev (fun k => calls_Of.l0 k l acc (rd_T69 l (u : Int)).f4 ((rd_T69 l (u : Int)).f4.length : Int) (i : Int)) (sc (acc ++ rawL l.length ((rd_T69 l (u : Int)).f4.drop i))) := by
    intro r
    induction r with
    | zero =>
      intro i acc hi ha
      refine ⟨1, fun k hk => ?_⟩
      obtain ⟨k, rfl⟩ : ∃ m, k = m + 1 := ⟨k - 1, by omega⟩
      simp only [calls_Of.l0]
      rw [if_neg (by omega), List.drop_eq_nil_of_le (by omega)]
      simp only [rawL, List.filter_nil, List.map_nil, List.append_nil]
      exact sortc (by omega)
    | succ r ih =>
      intro i acc hi ha
      rw [drop_44 _ i (by omega)]
      generalize hy : rd_T44 (rd_T69 l (u : Int)).f4 (i : Int) = y
      obtain ⟨K, g⟩ := ih (i + 1) acc (by omega) (by omega)
      obtain ⟨K2, g2⟩ := ih (i + 1) (acc ++ [y.f1]) (by omega) (by simp; omega)
      simp only at g g2
      refine ⟨max K K2 + 1, fun k hk => ?_⟩
      obtain ⟨k, rfl⟩ : ∃ m, k = m + 1 := ⟨k - 1, by omega⟩
      simp only [calls_Of.l0]
      rw [if_pos (by omega), if_pos (by omega), if_pos (by omega), wnext i (by omega), hy]
      by_cases c1 : y.f0 = 33
      · rw [if_pos c1]
        by_cases c2 : y.f1 ≥ 0
        · rw [if_pos c2]
          by_cases c3 : y.f1 < (l.length : Int)
          · rw [if_pos c3, if_pos (by omega), g2 k (by omega)]
            have : goodC l.length y = true := by simp only [goodC, Bool.and_eq_true, decide_eq_true_eq]; exact ⟨c1, by omega, c3⟩
            simp [rawL, this]
          · rw [if_neg c3, g k (by omega)]
            have : goodC l.length y = false := by simp [goodC, c3]
            simp [rawL, this]
        · rw [if_neg c2, g k (by omega)]
          have : goodC l.length y = false := by simp [goodC]; intro _ h0; omega
          simp [rawL, this]
      · rw [if_neg c1, g k (by omega)]
        have : goodC l.length y = false := by simp [goodC, c1]
        simp [rawL, this]
  obtain ⟨K, g⟩ := key _ 0 [] (Nat.zero_add _) (by simp)
  simp only [List.nil_append, List.drop_zero] at g
  have hl := ok.1
  refine ⟨K + 1, fun k hk => ?_⟩
  obtain ⟨k, rfl⟩ : ∃ m, k = m + 1 := ⟨k - 1, by omega⟩
  simp only [calls_Of.f]
  rw [if_neg (by omega), decide_eq_false (by omega)]
  simp only [calls_Of.j0, Bool.false_eq_true, if_false]
  rw [if_pos (by omega), if_pos (by omega)]
  exact g k (by omega)
theorem of_out (l : List S69) (x : Int) (h : ¬ (0 ≤ x ∧ x < (l.length : Int))) : Ev (fun k => calls_Of.f k l x) [] := by
  refine ⟨1, fun k hk => ?_⟩
  obtain ⟨k, rfl⟩ : ∃ m, k = m + 1 := ⟨k - 1, by omega⟩
  simp only [calls_Of.f]
  by_cases h0 : x < 0
  · rw [if_pos h0]; rfl
  · rw [if_neg h0, decide_eq_true (by omega)]; rfl
/-- What a round may place. -/
def rdy (l : List S69) (out : List Int) (u : Nat) : Prop := (u : Int) ∉ out ∧ ∀ t : Nat, t < l.length → edge l u t = true → (t : Int) ∈ out
theorem cnt_iff (out : List Int) (x : Int) : cntF out x = 0 ↔ x ∉ out := by
  unfold cntF
  constructor
  · intro h; exact List.count_eq_zero.mp (by omega)
  · intro h; have := List.count_eq_zero.mpr h; omega
theorem rdy_iff (l : List S69) (out : List Int) (u : Nat) : (cntF out (u : Int) = 0 ∧ rdyF (cntF out) (row l u) = true) ↔ rdy l out u := by
  unfold rdy rdyF
  rw [cnt_iff, List.all_eq_true]
  refine and_congr Iff.rfl ⟨fun h t ht he => ?_, fun h x hx => ?_⟩
  · have h1 := h (t : Int) ((row_mem l u _).mpr ⟨t, ht, he, rfl⟩)
    refine Classical.byContradiction fun hn => ?_
    rw [(cnt_iff out _).mpr hn] at h1
    simp at h1
  · obtain ⟨t, ht, he, rfl⟩ := (row_mem l u x).mp hx
    have h1 := h t ht he
    simp only [bne_iff_ne, ne_eq]
    intro hn
    exact (cnt_iff out _).mp hn h1
instance (l : List S69) (out : List Int) (u : Nat) : Decidable (rdy l out u) := decidable_of_iff _ (rdy_iff l out u)
def rws (l : List S69) (i r : Nat) : List (List Int) := (List.range' i r).map (row l)
theorem rws_zero (l : List S69) (i : Nat) : rws l i 0 = [] := rfl
theorem rws_succ (l : List S69) (i r : Nat) : rws l i (r + 1) = row l i :: rws l (i + 1) r := by unfold rws; rw [List.range'_succ]; rfl
theorem pick_zero (l : List S69) (out : List Int) (i : Nat) : pickF out (rws l i 0) i = -1 := rfl
theorem pick_succ (l : List S69) (out : List Int) (i r : Nat) : pickF out (rws l i (r + 1)) i = if rdy l out i then (i : Int) else pickF out (rws l (i + 1) r) (i + 1) := by
  rw [rws_succ]
  simp only [pickF]
  by_cases c : rdy l out i
  · rw [if_pos c, if_pos ((rdy_iff l out i).mpr c)]
  · rw [if_neg c, if_neg (fun h => c ((rdy_iff l out i).mp h))]
theorem pick_spec (l : List S69) (out : List Int) : ∀ r i : Nat, (pickF out (rws l i r) i = -1 ∧ ∀ u, i ≤ u → u < i + r → ¬ rdy l out u) ∨ ∃ u : Nat, pickF out (rws l i r) i = (u : Int) ∧ i ≤ u ∧ u < i + r ∧ rdy l out u := by
  intro r
  induction r with
  | zero => intro i; exact .inl ⟨rfl, fun u h1 h2 => by omega⟩
  | succ r ih =>
    intro i
    rw [pick_succ]
    by_cases c : rdy l out i
    · rw [if_pos c]; exact .inr ⟨i, rfl, by omega, by omega, c⟩
    · rw [if_neg c]
      rcases ih (i + 1) with ⟨h1, h2⟩ | ⟨u, h1, h2, h3, h4⟩
      · refine .inl ⟨h1, fun u hu hu2 => ?_⟩
        by_cases e : u = i
        · subst e; exact c
        · exact h2 u (by omega) (by omega)
      · exact .inr ⟨u, h1, by omega, by omega, h4⟩
def pk (l : List S69) (out : List Int) : Int := pickF out (rws l 0 l.length) 0
theorem pk_spec (l : List S69) (out : List Int) : (pk l out = -1 ∧ ∀ u, u < l.length → ¬ rdy l out u) ∨ ∃ u : Nat, pk l out = (u : Int) ∧ u < l.length ∧ rdy l out u := by
  rcases pick_spec l out l.length 0 with ⟨h1, h2⟩ | ⟨u, h1, h2, h3, h4⟩
  · exact .inl ⟨h1, fun u hu => h2 u (by omega) (by omega)⟩
  · exact .inr ⟨u, h1, by omega, h4⟩
def ordS (l : List S69) : Nat → List Int → List Int × Bool
 | 0, out => (out, true)
 | r + 1, out => if pk l out < 0 then ([], false) else ordS l r (out ++ [pk l out])
theorem ordL_eq (l : List S69) (hl : l.length < 17592186044416) : ∀ (r : Nat) (out : List Int), out.length + r = l.length → ∀ k, r < k → ordL (rws l 0 l.length) l.length k out = some (ordS l r out) := by
  intro r
  induction r with
  | zero =>
    intro out ho k hk
    obtain ⟨k, rfl⟩ : ∃ m, k = m + 1 := ⟨k - 1, by omega⟩
    simp only [ordL, ordS]
    rw [if_neg (by omega)]
  | succ r ih =>
    intro out ho k hk
    obtain ⟨k, rfl⟩ : ∃ m, k = m + 1 := ⟨k - 1, by omega⟩
    have e : pickF out (rws l 0 l.length) 0 = pk l out := rfl
    simp only [ordL, ordS]
    rw [if_pos (by omega), e]
    by_cases c : pk l out < 0
    · rw [if_pos c, if_pos c]
    · rw [if_neg c, if_neg c, if_pos (by omega)]
      exact ih _ (by simp; omega) k (by omega)
theorem rowsF_ev (l : List S69) (ok : Ok l) : ∀ (r u : Nat) (P : List (List Int)), u + r = l.length → P.length = l.length → Ev (fun k => rowsF k l r u P) (P.take u ++ rws l u r) := by
  intro r
  induction r with
  | zero =>
    intro u P hu hP
    refine ⟨0, fun k _ => ?_⟩
    simp only [rowsF]
    rw [rws_zero, List.append_nil, List.take_of_length_le (by omega)]
  | succ r ih =>
    intro u P hu hP
    obtain ⟨K1, g1⟩ := of_ev l ok u (by omega)
    obtain ⟨K2, g2⟩ := ih (u + 1) (P.set u (row l u)) (by omega) (by rw [List.length_set]; exact hP)
    simp only at g1 g2
    refine ⟨max K1 K2, fun k hk => ?_⟩
    simp only [rowsF]
    rw [g1 k (by omega)]
    simp only [Option.bind_some]
    rw [g2 k (by omega), rws_succ, List.take_succ_eq_append_getElem (by rw [List.length_set]; omega), List.take_set, List.set_eq_of_length_le (by rw [List.length_take]; omega)]
    simp
theorem rowsOk_rws (l : List S69) (ok : Ok l) : rowsOk (rws l 0 l.length) = true := by
  have hl := ok.1
  unfold rowsOk rws
  rw [List.all_eq_true]
  intro c hc
  obtain ⟨u, hu, rfl⟩ := List.mem_map.mp hc
  have h1 := row_len l u
  rw [Bool.and_eq_true]
  refine ⟨decide_eq_true (by omega), ?_⟩
  rw [List.all_eq_true]
  intro x hx
  obtain ⟨t, ht, _, rfl⟩ := (row_mem l u x).mp hx
  rw [Bool.and_eq_true]
  exact ⟨decide_eq_true (by omega), decide_eq_true (by omega)⟩
theorem order_ev (l : List S69) (ok : Ok l) : Ev (fun k => calls_Order.f k l) (ordS l l.length []) := by
  have hl := ok.1
  obtain ⟨K, g⟩ := rowsF_ev l ok l.length 0 (List.replicate l.length []) (by omega) (by simp)
  simp only [List.take_zero, List.nil_append] at g
  refine ⟨K + l.length + 1, fun k hk => ?_⟩
  simp only [calls_Order.f]
  rw [if_pos (by omega), g k (by omega)]
  simp only [Option.bind_some]
  rw [if_pos (rowsOk_rws l ok)]
  exact ordL_eq l (by omega) l.length [] (by simp) k (by omega)
theorem ordS_mem (l : List S69) : ∀ (r : Nat) (out : List Int), (∀ x ∈ out, 0 ≤ x ∧ x < (l.length : Int)) → ∀ x ∈ (ordS l r out).1, 0 ≤ x ∧ x < (l.length : Int) := by
  intro r
  induction r with
  | zero => intro out h; exact h
  | succ r ih =>
    intro out h
    simp only [ordS]
    rcases pk_spec l out with ⟨e, _⟩ | ⟨u, e, hu, _⟩
    · rw [if_pos (by omega)]; intro x hx; cases hx
    · rw [if_neg (by omega)]
      refine ih _ fun x hx => ?_
      rcases List.mem_append.mp hx with hx | hx
      · exact h x hx
      · rw [List.mem_singleton.mp hx]; omega
theorem ordS_len (l : List S69) : ∀ (r : Nat) (out : List Int), (ordS l r out).1.length ≤ out.length + r := by
  intro r
  induction r with
  | zero => intro out; exact Nat.le_refl _
  | succ r ih =>
    intro out
    simp only [ordS]
    split
    · simp
    · have := ih (out ++ [pk l out])
      rw [List.length_append, List.length_singleton] at this
      omega
theorem awake_ev : Ev (fun k => ladderbacklaw21_awake.f k) true := by
  have ok : Ok [(⟨(⟨#[]⟩ : ByteArray), ([] : List Int), 0, ([] : List Int), (([(⟨33, 1, 0⟩ : S44)] : List (S44)))⟩ : S69), (⟨(⟨#[]⟩ : ByteArray), ([] : List Int), 0, ([] : List Int), ([] : List (S44))⟩ : S69)] := by
    refine ⟨by decide, fun i hi => ?_⟩
    match i, hi with
    | 0, _ => exact (by decide)
    | 1, _ => exact (by decide)
  obtain ⟨K, g⟩ := order_ev _ ok
  have e : ordS [(⟨(⟨#[]⟩ : ByteArray), ([] : List Int), 0, ([] : List Int), (([(⟨33, 1, 0⟩ : S44)] : List (S44)))⟩ : S69), (⟨(⟨#[]⟩ : ByteArray), ([] : List Int), 0, ([] : List Int), ([] : List (S44))⟩ : S69)] 2 [] = ([1, 0], true) := by decide
  have g' : ∀ k, K ≤ k → calls_Order.f k [(⟨(⟨#[]⟩ : ByteArray), ([] : List Int), 0, ([] : List Int), (([(⟨33, 1, 0⟩ : S44)] : List (S44)))⟩ : S69), (⟨(⟨#[]⟩ : ByteArray), ([] : List Int), 0, ([] : List Int), ([] : List (S44))⟩ : S69)] = some ([1, 0], true) := fun k hk => (g k hk).trans (congrArg some e)
  refine ⟨K, fun k hk => ?_⟩
  simp only [ladderbacklaw21_awake.f]
  rw [g' k hk]
  rfl
end Go.Proofs.Ytfiffhcpgojkhaa.PcoCallsCircle
