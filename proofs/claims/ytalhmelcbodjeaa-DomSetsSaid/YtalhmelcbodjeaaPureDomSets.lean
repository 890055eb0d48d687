/- DomSets: which places dominate which, by sets and by the nearest ones; plain. No condition. -/
import Derived.Test.YtalhmelcbodjeaaPddDomSets
import Derived.Test.YtalhmelcbodjeaaPdfDomSets
import Derived.Test.YtalhmelcbodjeaaPdwDomSets
import Derived.Test.YtalhmelcbodjeaaDomR
import Derived.Laws.BitsLemmas
namespace Go.Proofs.Ytalhmelcbodjeaa.Pure
open Go.Proofs.Ytalhmelcbodjeaa Go.Proofs.Ytalhmelcbodjeaa.QDomSets Go.Proofs.Ytalhmelcbodjeaa.PdB Go.Proofs.Ytalhmelcbodjeaa.PdfDomSets Go.Proofs.Ytalhmelcbodjeaa.PddDomSets Go.Proofs.Ytalhmelcbodjeaa.PdwDomSets Go.Proofs.Ytalhmelcbodjeaa.DomA Go.Proofs.Ytalhmelcbodjeaa.DomF Go.Proofs.Ytalhmelcbodjeaa.DomP Go.RowKit Go.Proofs.YtalhmelcbodjeaaW.PrintWords Go.Proofs.YtalhmelcbodjeaaW.PrintLast Go.Proofs.YtalhmelcbodjeaaW.PrintMore
set_option linter.unusedSimpArgs false
set_option linter.unusedVariables false
theorem awake_ev : Ev (fun k => ladderbacklaw31_awake.f k) true := by
  have h0 : dom_Idom.f 9 [[1, 2], [3], [3], []] = some [-1, 0, 0, 0] := by decide +kernel
  obtain ⟨K, h⟩ := Ev.of (g := fun k => dom_Idom.f k [[1, 2], [3], [3], []]) (fun k => dom_Idom.mono _ k) h0
  simp only at h
  refine ⟨K, fun k hk => ?_⟩
  simp only [ladderbacklaw31_awake.f]
  rw [h k hk]
  rfl
theorem wrap_u64 (n : Int) (h0 : 0 ≤ n) (h1 : n < 2 ^ 64) : IntKind.u64.wrap n = n := by
  simp [IntKind.wrap, IntKind.bits, IntKind.signed]
  omega
/-- A set of places below n, n at least 1, as one word. -/
abbrev mk (n w : Nat) : S36 := ⟨(n : Int), [(w : Int)]⟩
theorem new_val (n : Nat) (h1 : 1 ≤ n) (h : n ≤ 24) : bits_New.f (n : Int) = some ((n : Int), [0]) := by
  have e1 : mn (n : Int) 65536 = (n : Int) := by unfold mn; split <;> omega
  have e2 : mx 0 (n : Int) = (n : Int) := by unfold mx; split <;> omega
  unfold bits_New.f
  rw [e1, e2]
  have e3 : ((n : Int) + 63) / 64 = 1 := by omega
  rw [e3]
  rfl
theorem with_val (n w i : Nat) (hn : n ≤ 24) (hi : i < n) (hw : w < 2 ^ 24) : bits_Set_With.f (n : Int) [(w : Int)] (i : Int) = some ((n : Int), [((w ||| 2 ^ i : Nat) : Int)]) := by
  unfold bits_Set_With.f
  rw [if_neg (by omega), if_neg (by omega)]
  unfold bits_Set_copied.f
  rw [new_val n (by omega) hn]
  have e1 : wrap64 (Int.tdiv (i : Int) 64) = 0 := by
    rw [Int.tdiv_eq_ediv_of_nonneg (by omega), show (i : Int) / 64 = 0 by omega]
    exact w64_of (by decide) (by decide)
  have e2 : Int.tmod (i : Int) 64 = (i : Int) := by rw [Int.tmod_eq_emod_of_nonneg (by omega)]; omega
  simp only [Option.bind_some, e1, e2]
  have e3 : shl .u64 1 (i : Int) = ((2 ^ i : Nat) : Int) := by
    unfold shl
    have hm : min ((i : Int)).toNat (IntKind.u64.bits) = i := by simp [IntKind.bits]; omega
    rw [hm, Int.one_mul]
    have hp : 2 ^ i < 2 ^ 24 := Nat.pow_lt_pow_right (by decide) (by omega)
    rw [wrap_u64 _ (by exact_mod_cast Nat.zero_le (2 ^ i)) (by
      have : ((2 ^ i : Nat) : Int) < ((2 ^ 64 : Nat) : Int) := by exact_mod_cast Nat.lt_of_lt_of_le hp (by decide)
      exact_mod_cast this)]
    norm_cast
  have e4 : Go.bits .or .u64 (w : Int) ((2 ^ i : Nat) : Int) = ((w ||| 2 ^ i : Nat) : Int) := by
    have hp : 2 ^ i < 2 ^ 24 := Nat.pow_lt_pow_right (by decide) (by omega)
    exact (bits_nat .u64 64 (by decide) wrap_u64 w (2 ^ i) (Nat.lt_of_lt_of_le hw (by decide)) (Nat.lt_of_lt_of_le hp (by decide))).2
  rw [e3]
  have e5 : rd (List.take (min [(w : Int)].length [(0 : Int)].length) [(w : Int)] ++ List.drop (min [(w : Int)].length [(0 : Int)].length) [(0 : Int)]) 0 = (w : Int) := rfl
  rw [if_pos (by simp), if_pos (by simp), if_pos (by omega), e5, e4]
  rfl
theorem has_val (n w a : Nat) (hn : n ≤ 24) (ha : a < n) (hw : w < 2 ^ 24) : bits_Set_Has.f (n : Int) [(w : Int)] (a : Int) = some (w.testBit a) := by
  have e1 : wrap64 (Int.tdiv (a : Int) 64) = 0 := by
    rw [Int.tdiv_eq_ediv_of_nonneg (by omega), show (a : Int) / 64 = 0 by omega]
    exact w64_of (by decide) (by decide)
  have e2 : Int.tmod (a : Int) 64 = (a : Int) := by rw [Int.tmod_eq_emod_of_nonneg (by omega)]; omega
  unfold bits_Set_Has.f
  rw [e1, e2]
  have e3 : shr .u64 (rd [(w : Int)] 0) (a : Int) = ((w / 2 ^ a : Nat) : Int) := by
    unfold shr
    have hm : min ((a : Int)).toNat (IntKind.u64.bits) = a := by simp [IntKind.bits]; omega
    rw [hm]
    show (w : Int) / 2 ^ a = _
    norm_cast
  have hlt : w / 2 ^ a < 2 ^ 64 := Nat.lt_of_le_of_lt (Nat.div_le_self _ _) (Nat.lt_of_lt_of_le hw (by decide))
  have e4 : Go.bits .and .u64 ((w / 2 ^ a : Nat) : Int) 1 = ((w / 2 ^ a % 2 : Nat) : Int) := by
    have := (bits_nat .u64 64 (by decide) wrap_u64 (w / 2 ^ a) 1 hlt (by decide)).1
    rw [show ((1 : Nat) : Int) = 1 from rfl] at this
    rw [this, Nat.and_one_is_mod]
  rw [if_pos (by omega), if_pos (by omega), if_pos (by simp), if_pos (by simp), if_pos (by omega), e3, e4, Nat.testBit_eq_decide_div_mod_eq]
  congr 1
  rw [Bool.eq_iff_iff]
  simp only [beq_iff_eq, decide_eq_true_eq]
  omega
theorem or_lt (w i : Nat) (hw : w < 2 ^ 24) (hi : i < 24) : w ||| 2 ^ i < 2 ^ 24 := Nat.or_lt_two_pow hw (Nat.pow_lt_pow_right (by decide) hi)
theorem or_bit (w i a : Nat) : (w ||| 2 ^ i).testBit a = true ↔ w.testBit a = true ∨ a = i := by
  rw [Nat.testBit_or, Nat.testBit_two_pow]
  simp only [Bool.or_eq_true, decide_eq_true_eq]
  exact ⟨fun h => h.imp id Eq.symm, fun h => h.imp id Eq.symm⟩
theorem getS_set (X : List S36) (i j : Nat) (x : S36) (hi : i < X.length) : (X.set i x).getD j z36 = if j = i then x else X.getD j z36 := by
  by_cases h : j = i
  · subst h; simp [List.getD_eq_getElem?_getD, hi]
  · rw [if_neg h]; simp [List.getD_eq_getElem?_getD, List.getElem?_set, Ne.symm h]
/-- The sets behind those of A. -/
structure SX (next : List (List Int)) (A : List Nat) (X : List S36) : Prop where
  len : X.length = next.length
  at_ : ∀ v, v < next.length → ∃ w : Nat, X.getD v z36 = mk next.length w ∧ w < 2 ^ 24 ∧ ∀ a, a < next.length → (w.testBit a = true ↔ v ∈ A ∧ Dm next a v)
theorem rdT (X : List S36) (v : Nat) : rd_T36 X (v : Int) = X.getD v z36 := by simp [rd_T36]
theorem l1_sets {next : List (List Int)} {T : List Nat} (o : Ord next T) (sm : Small next) (h24 : next.length ≤ 24) (hn : 0 < next.length) {D : List Int} (hD : D.length = next.length) (hyes : ∀ v, Rch next v → v ≠ 0 → ∃ m : Nat, D.getD v 0 = (m : Int) ∧ Rch next m ∧ m ≠ v ∧ at_ T m < at_ T v ∧ ∀ x, Dm next x m ↔ Dm next x v ∧ x ≠ v) :
    ∀ (B A : List Nat) (X : List S36), 0 :: T = A ++ B → SX next A X → ∃ X', Ev (fun k => dom_Sets.l1 k X D ((0 :: T).map fun v : Nat => (v : Int)) (((0 :: T).map fun v : Nat => (v : Int)).length : Int) (A.length : Int)) X' ∧ SX next (0 :: T) X' := by
  obtain ⟨refl, trans, lin, anti, rch⟩ := dm_facts next sm hn
  have hTl : (0 :: T).length ≤ next.length := nodup_len _ _ o.nd fun v hv => Rch.lt ((o.mem v).mp hv)
  intro B
  induction B with
  | nil =>
    intro A X hA s
    rw [List.append_nil] at hA
    subst hA
    refine ⟨X, ⟨1, fun k hk => ?_⟩, s⟩
    obtain ⟨k, rfl⟩ : ∃ m, k = m + 1 := ⟨k - 1, by omega⟩
    simp only [dom_Sets.l1]
    rw [if_neg (by rw [List.length_map]; omega)]
  | cons i B ih =>
    intro A X hA s
    have hiR : Rch next i := (o.mem i).mp (by rw [hA]; exact List.mem_append_right _ List.mem_cons_self)
    have hil := Rch.lt hiR
    have hAl : A.length < (0 :: T).length := by rw [hA]; simp
    have hrd : rd ((0 :: T).map fun v : Nat => (v : Int)) (A.length : Int) = (i : Int) := by
      rw [hA]
      simp [rd, List.getD_eq_getElem?_getD]
    have hiA : i ∉ A := by
      have hnd := o.nd
      rw [hA] at hnd
      exact fun hm => (List.nodup_append.mp hnd).2.2 i hm i List.mem_cons_self rfl
    have hXl := s.len
    have fin : ∀ w : Nat, w < 2 ^ 24 → (∀ a, a < next.length → (w.testBit a = true ↔ Dm next a i ∧ a ≠ i)) → ∀ Y : List S36, Y.length = next.length → (∀ v, v ≠ i → Y.getD v z36 = X.getD v z36) → SX next (A ++ [i]) (Y.set i (mk next.length (w ||| 2 ^ i))) := by
      intro w hw hb Y hY hYX
      refine ⟨by simpa using hY, fun v hv => ?_⟩
      rw [getS_set _ _ _ _ (by omega)]
      by_cases e : v = i
      · rw [if_pos e]
        refine ⟨_, rfl, or_lt w i hw (by omega), fun a ha => ?_⟩
        rw [or_bit, hb a ha, e]
        constructor
        · rintro (⟨h, _⟩ | h)
          · exact ⟨List.mem_append_right _ (List.mem_singleton.mpr rfl), h⟩
          · subst h; exact ⟨List.mem_append_right _ (List.mem_singleton.mpr rfl), refl _ hiR⟩
        · rintro ⟨_, h⟩
          by_cases e2 : a = i
          · exact Or.inr e2
          · exact Or.inl ⟨h, e2⟩
      · rw [if_neg e, hYX v e]
        obtain ⟨w2, h1, h2, h3⟩ := s.at_ v hv
        refine ⟨w2, h1, h2, fun a ha => (h3 a ha).trans ⟨fun h => ⟨List.mem_append_left _ h.1, h.2⟩, fun h => ⟨?_, h.2⟩⟩⟩
        rcases List.mem_append.mp h.1 with h | h
        · exact h
        · exact absurd (List.mem_singleton.mp h) e
    have goon : ∀ Y, SX next (A ++ [i]) Y → ∃ X', Ev (fun k => dom_Sets.l1 k Y D ((0 :: T).map fun v : Nat => (v : Int)) (((0 :: T).map fun v : Nat => (v : Int)).length : Int) (wrap64 ((A.length : Int) + 1))) X' ∧ SX next (0 :: T) X' := by
      intro Y sY
      have := ih (A ++ [i]) Y (by rw [hA]; simp) sY
      rw [wnext A.length (by omega)]
      simpa using this
    by_cases h0 : i = 0
    · subst h0
      obtain ⟨w, hX0, hw, hbits⟩ := s.at_ 0 hn
      have hS := fin w hw (fun a ha => by
        rw [hbits a ha]
        constructor
        · rintro ⟨h, _⟩; exact absurd h hiA
        · rintro ⟨h, hne⟩; exact absurd (.root (fun e => hne e.symm)) h.2) X hXl (fun v _ => rfl)
      obtain ⟨X', ⟨K, g⟩, sX⟩ := goon _ hS
      simp only at g
      refine ⟨X', ⟨K + 1, fun k hk => ?_⟩, sX⟩
      obtain ⟨k, rfl⟩ : ∃ m, k = m + 1 := ⟨k - 1, by omega⟩
      simp only [dom_Sets.l1]
      rw [if_pos (by rw [List.length_map]; omega), if_pos (by omega), if_pos (by rw [List.length_map]; omega), hrd, if_neg (by omega), if_pos (by omega), if_pos (by omega), rdT, hX0]
      rw [with_val next.length w 0 h24 hn hw]
      exact g k (by omega)
    · obtain ⟨m, hDm, hmR, hmi, hat, hdm⟩ := hyes i hiR h0
      have hmA : m ∈ A := by
        have hidx := at_idx o hA
        have h1 : at_ T m < A.length := by omega
        have h2 := List.getElem_idxOf (List.idxOf_lt_length_of_mem ((o.mem m).mpr hmR))
        have key : ∀ (q : Nat) (hq : q < (0 :: T).length), q < A.length → (0 :: T)[q] ∈ A := by
          intro q hq hl
          have h5 : (0 :: T)[q]? = A[q]? := by rw [hA, List.getElem?_append_left hl]
          rw [List.getElem?_eq_getElem hq, List.getElem?_eq_getElem hl] at h5
          rw [Option.some.inj h5]
          exact List.getElem_mem _
        have h3 := key _ (List.idxOf_lt_length_of_mem ((o.mem m).mpr hmR)) h1
        rw [h2] at h3
        exact h3
      have hml := Rch.lt hmR
      obtain ⟨w, hXm, hw, hbits⟩ := s.at_ m hml
      have hYi : (X.set i (mk next.length w)).getD i z36 = mk next.length w := by rw [getS_set _ _ _ _ (by omega), if_pos rfl]
      have hS := fin w hw (fun a ha => by
        rw [hbits a ha, hdm a]
        exact ⟨fun h => h.2, fun h => ⟨hmA, h⟩⟩) (X.set i (mk next.length w)) (by simpa using hXl) (fun v hv => by rw [getS_set _ _ _ _ (by omega), if_neg hv])
      obtain ⟨X', ⟨K, g⟩, sX⟩ := goon _ hS
      simp only at g
      refine ⟨X', ⟨K + 1, fun k hk => ?_⟩, sX⟩
      obtain ⟨k, rfl⟩ : ∃ m, k = m + 1 := ⟨k - 1, by omega⟩
      simp only [dom_Sets.l1]
      have eD : rd D (i : Int) = (m : Int) := by rw [rd_nat, hDm]
      rw [if_pos (by rw [List.length_map]; omega), if_pos (by omega), if_pos (by rw [List.length_map]; omega), hrd, if_pos (by omega), if_pos (by omega), if_pos (by omega), eD, if_pos (by omega), if_pos (by omega), if_pos (by omega), rdT, hXm]
      simp only [Option.bind_some, Int.toNat_natCast]
      rw [rdT, hYi]
      rw [with_val next.length w i h24 hil hw]
      exact g k (by omega)
theorem sets_ev (next : List (List Int)) (sm : Small next) (h24 : next.length ≤ 24) (hn : 0 < next.length) : ∃ X D, Ev (fun k => dom_Sets.f k next) X ∧ Ev (fun k => dom_Idom.f k next) D ∧ D.length = next.length ∧ (∀ v, v < next.length → (¬ Rch next v ∨ v = 0) → D.getD v 0 = -1) ∧ (∀ v, Rch next v → v ≠ 0 → ∃ m : Nat, D.getD v 0 = (m : Int) ∧ Rch next m ∧ m ≠ v ∧ ∀ x, Dm next x m ↔ Dm next x v ∧ x ≠ v) ∧
    X.length = next.length ∧ ∀ v, v < next.length → ∃ w : Nat, X.getD v z36 = mk next.length w ∧ w < 2 ^ 24 ∧ ∀ a, a < next.length → (w.testBit a = true ↔ Dm next a v) := by
  obtain ⟨T, o, e, K, D, h1, h2, h3, h4⟩ := idom_some2 next sm hn
  have key : ∀ (r i : Nat) (X : List S36), i + r = next.length → X.length = next.length → (∀ v, v < i → X.getD v z36 = mk next.length 0) → ∃ X', Ev (fun k => dom_Sets.l0 k next X (next.length : Int) (i : Int)) X' ∧ SX next (0 :: T) X' := by
    intro r
    induction r with
    | zero =>
      intro i X hi hX h0
      obtain ⟨X', ⟨K2, g⟩, s⟩ := l1_sets o sm h24 hn h2 h4 (0 :: T) [] X rfl ⟨hX, fun v hv => ⟨0, h0 v (by omega), by decide, fun a _ => by simp⟩⟩
      simp only [List.length_nil] at g
      refine ⟨X', ⟨max K K2 + 1, fun k hk => ?_⟩, s⟩
      obtain ⟨k, rfl⟩ : ∃ m, k = m + 1 := ⟨k - 1, by omega⟩
      simp only [dom_Sets.l0]
      rw [if_neg (by omega), h1 k (by omega)]
      simp only [Option.bind_some]
      rw [e]
      exact g k (by omega)
    | succ r ih =>
      intro i X hi hX h0
      obtain ⟨X', ⟨K2, g⟩, s⟩ := ih (i + 1) (X.set i (mk next.length 0)) (by omega) (by simpa using hX) (fun v hv => by
        rw [getS_set _ _ _ _ (by omega)]
        by_cases e : v = i
        · rw [if_pos e]
        · rw [if_neg e]; exact h0 v (by omega))
      simp only at g
      refine ⟨X', ⟨K2 + 1, fun k hk => ?_⟩, s⟩
      obtain ⟨k, rfl⟩ : ∃ m, k = m + 1 := ⟨k - 1, by omega⟩
      simp only [dom_Sets.l0]
      rw [if_pos (by omega), new_val next.length (by omega) h24]
      simp only [Option.bind_some]
      rw [if_pos (by omega), if_pos (by omega), wnext i (by omega), Int.toNat_natCast]
      exact g k (by omega)
  obtain ⟨X', ⟨K2, g⟩, s⟩ := key next.length 0 (List.replicate next.length z36) (by omega) (by simp) (by intros; omega)
  simp only at g
  refine ⟨X', D, ⟨K2, fun k hk => ?_⟩, ⟨K, h1⟩, h2, h3, fun v hv hv0 => ?_, s.len, fun v hv => ?_⟩
  · simp only [dom_Sets.f]
    rw [if_pos (by omega), if_pos (by omega), Int.toNat_natCast]
    simp only [Option.bind_some, List.length_replicate]
    exact g k hk
  · obtain ⟨m, a1, a2, a3, _, a4⟩ := h4 v hv hv0
    exact ⟨m, a1, a2, a3, a4⟩
  · obtain ⟨w, a1, a2, a3⟩ := s.at_ v hv
    exact ⟨w, a1, a2, fun a ha => (a3 a ha).trans ⟨fun h => h.2, fun h => ⟨(o.mem v).mpr h.1, h⟩⟩⟩
/-- A walk along the nearest ones tells what dominates. -/
theorem walk_dm {next : List (List Int)} (sm : Small next) (hn : 0 < next.length) {T : List Nat} (o : Ord next T) {D : List Int} (hD : D.length = next.length) (hno : D.getD 0 0 = -1) (hyes : ∀ v, Rch next v → v ≠ 0 → ∃ m : Nat, D.getD v 0 = (m : Int) ∧ Rch next m ∧ m ≠ v ∧ at_ T m < at_ T v ∧ ∀ x, Dm next x m ↔ Dm next x v ∧ x ≠ v) (a : Nat) :
    ∀ (r v : Nat), Rch next v → at_ T v + 2 ≤ r → (walk D (a : Int) r (v : Int) = true ↔ Dm next a v) := by
  obtain ⟨refl, trans, lin, anti, rch⟩ := dm_facts next sm hn
  intro r
  induction r with
  | zero => intro v _ h; omega
  | succ r ih =>
    intro v hv hr
    have hvl := Rch.lt hv
    simp only [walk]
    by_cases e : v = a
    · rw [if_pos (by omega)]
      subst e
      simp [refl v hv]
    · rw [if_neg (by omega), if_neg (by omega), if_neg (by omega), rd_nat]
      by_cases h0 : v = 0
      · subst h0
        rw [hno]
        have hno2 : ¬ Dm next a 0 := fun h => h.2 (.root e)
        obtain ⟨r, rfl⟩ : ∃ q, r = q + 1 := ⟨r - 1, by omega⟩
        simp only [walk]
        rw [if_neg (by omega), if_pos (by omega)]
        simp [hno2]
      · obtain ⟨m, h1, h2, h3, h4, h5⟩ := hyes v hv h0
        rw [h1, ih m h2 (by omega), h5 a]
        exact ⟨fun h => h.1, fun h => ⟨h, fun e2 => e e2.symm⟩⟩
theorem DomSets : ladderbacklaw31_DomSets.Pure := by
  intro next hw
  apply Ev.rounds
  obtain ⟨K2, h2⟩ := awake_ev
  obtain ⟨b, ⟨K1, h1⟩, hb⟩ := few_ev next 24 (by omega)
  simp only at h1 h2
  cases b with
  | false =>
    refine ⟨max K1 K2, fun k hk => ?_⟩
    simp only [ladderbacklaw31_DomSets.f]
    have h1' := h1 k (by omega)
    rw [show ((24 : Nat) : Int) = 24 from rfl] at h1'
    rw [h1']
    simp only [Option.bind_some, Bool.false_eq_true, if_false]
    rw [h2 k (by omega)]
    rfl
  | true =>
    have sm := small_of (most := 24) (by omega) (hb rfl)
    have h24 := (hb rfl).1
    by_cases hn : 0 < next.length
    rotate_left
    · have e : next = [] := List.eq_nil_of_length_eq_zero (by omega)
      subst e
      refine ⟨max K1 K2 + 5, fun k hk => ?_⟩
      obtain ⟨k, rfl⟩ : ∃ m, k = m + 5 := ⟨k - 5, by omega⟩
      simp only [ladderbacklaw31_DomSets.f]
      have h1' := h1 (k + 5) (by omega)
      rw [show ((24 : Nat) : Int) = 24 from rfl] at h1'
      rw [h1']
      have e1 : ∀ k, dom_Idom.f k [] = some [] := fun k => rfl
      have e2 : dom_Order.f [] = some [] := rfl
      have e3 : dom_Sets.f (k + 5) [] = some [] := by
        simp only [dom_Sets.f]
        rw [if_pos (by decide), if_pos (by decide)]
        simp only [Option.bind_some, dom_Sets.l0]
        rw [if_neg (by decide), e1]
        simp only [Option.bind_some, e2, dom_Sets.l1]
        rw [if_neg (by decide)]
        rfl
      have e4 : ladderbackref31_Reach.f (k + 4) [] 0 (-1) = some [] := by
        simp only [ladderbackref31_Reach.f]
        rw [if_pos (by decide), if_pos (by decide)]
        simp only [Option.bind_some]
        rw [if_neg (by decide), if_pos (by decide)]
        rfl
      rw [e3, e1]
      simp only [Option.bind_some, if_true]
      rw [if_pos (by decide)]
      simp only [ladderbacklaw31_DomSets.j0]
      rw [if_neg (by decide), e4]
      simp only [Option.bind_some, ladderbacklaw31_DomSets.l0]
      rw [if_neg (by decide), h2 (k + 3) (by omega)]
      rfl
    obtain ⟨X, D, ⟨K3, g3⟩, ⟨K4, g4⟩, hD, hno, hyes, hX, hbit⟩ := sets_ev next sm h24 hn
    obtain ⟨R, ⟨K5, g5⟩, hRl, hR⟩ := reach0_ev next sm
    simp only at g3 g4 g5
    obtain ⟨T, o, _, K6, D6, g6, hD6, hno6, hyes6⟩ := idom_some2 next sm hn
    have eD : D = D6 := by
      have a1 := g4 (max K4 K6) (by omega)
      have a2 := g6 (max K4 K6) (by omega)
      rw [a1] at a2
      exact Option.some.inj a2
    have hTl : (0 :: T).length ≤ next.length := nodup_len _ _ o.nd fun v hv => Rch.lt ((o.mem v).mp hv)
    have l1 : ∀ (v : Nat), v < next.length → ∀ (r a : Nat), a + r = next.length → ∀ Rr, Ev (fun k => ladderbacklaw31_DomSets.l0 k next X D R ((v + 1 : Nat) : Int)) Rr → Ev (fun k => ladderbacklaw31_DomSets.l1 k next X D R (v : Int) (a : Int)) Rr := by
      intro v hv r
      induction r with
      | zero =>
        intro a ha Rr hRr
        obtain ⟨K, g⟩ := hRr
        simp only at g
        refine ⟨K + 1, fun k hk => ?_⟩
        obtain ⟨k, rfl⟩ : ∃ m, k = m + 1 := ⟨k - 1, by omega⟩
        simp only [ladderbacklaw31_DomSets.l1]
        rw [if_neg (by omega), wnext v (by omega)]
        exact g k (by omega)
      | succ r ih =>
        intro a ha Rr hRr
        obtain ⟨K, g⟩ := ih (a + 1) (by omega) Rr hRr
        obtain ⟨d, ⟨K7, g7⟩, hd⟩ := dominates_ev next sm (a : Int) (v : Int)
        simp only at g g7
        have hd' : d = true ↔ Dm next a v := hd.trans ⟨fun ⟨x, u, e1, e2, _, hh⟩ => by
          have e3 : a = x := by omega
          have e4 : v = u := by omega
          rw [e3, e4]; exact hh, fun hh => ⟨a, v, rfl, rfl, by omega, hh⟩⟩
        obtain ⟨w, hXv, hw2, hbits⟩ := hbit v hv
        have hwd : w.testBit a = d := by
          rw [Bool.eq_iff_iff, hbits a (by omega), hd']
        obtain ⟨K8, g8⟩ := dom_f D (a : Int) (v : Int) (by omega)
        simp only at g8
        have eX : rd_T36 X (v : Int) = mk next.length w := by rw [rdT, hXv]
        refine ⟨max K (max K7 K8) + 1, fun k hk => ?_⟩
        obtain ⟨k, rfl⟩ : ∃ m, k = m + 1 := ⟨k - 1, by omega⟩
        simp only [ladderbacklaw31_DomSets.l1]
        rw [if_pos (by omega), g7 k (by omega)]
        simp only [Option.bind_some]
        rw [if_pos (by omega), if_pos (by omega), eX]
        rw [has_val next.length w a h24 (by omega) hw2, hwd]
        simp only [Option.bind_some]
        rw [if_neg (by simp), if_pos (by omega), wnext a (by omega)]
        have hgo := g k (by omega)
        have e9 : rdOf false R (v : Int) = R.getD v false := by simp [rdOf]
        rw [e9]
        by_cases hRv : R.getD v false = true
        · rw [if_pos hRv, g8 k (by omega)]
          have hv2 := (hR v).mp hRv
          have h10 := walk_dm sm hn o (D := D) hD (hno 0 hn (Or.inr rfl)) (by rw [eD]; exact hyes6) a (D.length + 1) v hv2 (by have := at_lt o hv2; simp only [List.length_cons] at hTl; omega)
          have h11 : (if (v : Int) < 0 then false else if (v : Int) ≥ (D.length : Int) then false else walk D (a : Int) (D.length + 1) (v : Int)) = d := by
            rw [if_neg (by omega), if_neg (by omega), Bool.eq_iff_iff, h10, hd']
          rw [h11]
          simp only [Option.bind_some]
          rw [if_neg (by simp)]
          exact hgo
        · rw [if_neg hRv]
          exact hgo
    have l0 : ∀ (r v : Nat), v + r = next.length → Ev (fun k => ladderbacklaw31_DomSets.l0 k next X D R (v : Int)) true := by
      intro r
      induction r with
      | zero =>
        intro v hv
        refine ⟨K2 + 1, fun k hk => ?_⟩
        obtain ⟨k, rfl⟩ : ∃ m, k = m + 1 := ⟨k - 1, by omega⟩
        simp only [ladderbacklaw31_DomSets.l0]
        rw [if_neg (by omega), h2 k (by omega)]
        rfl
      | succ r ih =>
        intro v hv
        obtain ⟨K, g⟩ := l1 v (by omega) next.length 0 (by omega) true (ih (v + 1) (by omega))
        simp only at g
        obtain ⟨w, hXv, _, _⟩ := hbit v (by omega)
        have eX : rd_T36 X (v : Int) = mk next.length w := by rw [rdT, hXv]
        refine ⟨K + 1, fun k hk => ?_⟩
        obtain ⟨k, rfl⟩ : ∃ m, k = m + 1 := ⟨k - 1, by omega⟩
        simp only [ladderbacklaw31_DomSets.l0]
        rw [if_pos (by omega), if_pos (by omega), if_pos (by omega), eX]
        simp only [bits_Set_Room.f, Option.bind_some, if_true]
        exact g k (by omega)
    obtain ⟨K9, g9⟩ := l0 next.length 0 (by omega)
    simp only at g9
    refine ⟨max (max (max K1 K2) (max K3 K4)) (max K5 K9) + 1, fun k hk => ?_⟩
    obtain ⟨k, rfl⟩ : ∃ m, k = m + 1 := ⟨k - 1, by omega⟩
    simp only [ladderbacklaw31_DomSets.f]
    have h1' := h1 (k + 1) (by omega)
    rw [show ((24 : Nat) : Int) = 24 from rfl] at h1'
    rw [h1']
    simp only [Option.bind_some, if_true]
    rw [g3 (k + 1) (by omega)]
    simp only [Option.bind_some]
    rw [g4 (k + 1) (by omega)]
    simp only [Option.bind_some]
    rw [if_pos (by omega)]
    simp only [ladderbacklaw31_DomSets.j0]
    rw [if_neg (by rw [hD]; simp), g5 k (by omega)]
    simp only [Option.bind_some]
    exact g9 k (by omega)
end Go.Proofs.Ytalhmelcbodjeaa.Pure
