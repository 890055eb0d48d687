/- The document's flow: jumps, where one goes on, which places are met; plain. No condition but that the code is short. -/
import Derived.Test.YtfiffhcpgojkhaaPflFlowBlocks
namespace Go.Proofs.Ytfiffhcpgojkhaa.PfrFlowBlocks
open Go.Proofs.Ytfiffhcpgojkhaa Go.Proofs.Ytfiffhcpgojkhaa.QFlowBlocks Go.Proofs.Ytfiffhcpgojkhaa.PdC Go.Proofs.Ytfiffhcpgojkhaa.PflFlowBlocks Go.RowKit Go.Proofs.YtfiffhcpgojkhaaW.PrintWords Go.Proofs.YtfiffhcpgojkhaaW.PrintLast Go.Proofs.YtfiffhcpgojkhaaW.PrintMore
set_option linter.unusedSimpArgs false
set_option linter.unusedVariables false
theorem rjl_ev (l : List S44) (hl : l.length ≤ 150) (i n : Nat) (hn : i + 1 + n ≤ l.length) (a c : Int) : ∀ r m : Nat, m + r = n → ∃ b : Bool, Ev (fun k => ladderbackref18_Jump.l0 k l (i : Int) (m : Int) a (n : Int) c) (if b then 0 else 11) ∧ (b = true ↔ ∀ j : Nat, m ≤ j → j < n → (ins l (i + 1 + j)).f0 = 30) := by
  intro r
  induction r with
  | zero =>
    intro m hm
    refine ⟨true, ⟨1, fun k hk => ?_⟩, by simp; intro j h1 h2; omega⟩
    obtain ⟨k, rfl⟩ : ∃ m, k = m + 1 := ⟨k - 1, by omega⟩
    simp only [ladderbackref18_Jump.l0]
    rw [if_neg (by omega)]
    rfl
  | succ r ih =>
    intro m hm
    have e1 : wrap64 (wrap64 ((i : Int) + 1) + (m : Int)) = ((i + 1 + m : Nat) : Int) := by rw [wnext i (by omega), w64_of (by omega) (by omega)]; omega
    by_cases e : (ins l (i + 1 + m)).f0 = 30
    · obtain ⟨b, ⟨K, g⟩, hb⟩ := ih (m + 1) (by omega)
      simp only at g
      refine ⟨b, ⟨K + 1, fun k hk => ?_⟩, ?_⟩
      · obtain ⟨k, rfl⟩ : ∃ m, k = m + 1 := ⟨k - 1, by omega⟩
        simp only [ladderbackref18_Jump.l0]
        rw [if_pos (by omega), e1, if_pos (by omega), if_pos (by omega), if_pos e, wnext m (by omega)]
        exact g k (by omega)
      · rw [hb]
        constructor
        · intro h j h1 h2
          by_cases ej : j = m
          · subst ej; exact e
          · exact h j (by omega) h2
        · intro h j h1 h2; exact h j (by omega) h2
    · refine ⟨false, ⟨1, fun k hk => ?_⟩, ?_⟩
      · obtain ⟨k, rfl⟩ : ∃ m, k = m + 1 := ⟨k - 1, by omega⟩
        simp only [ladderbackref18_Jump.l0]
        rw [if_pos (by omega), e1, if_pos (by omega), if_pos (by omega), if_neg e]
        rfl
      · simp
        exact ⟨m, Nat.le_refl _, by omega, e⟩
theorem rjump_ev (l : List S44) (lm : Lim l) (i : Nat) (hi : i < l.length) : ∃ b : Bool, Ev (fun k => ladderbackref18_Jump.f k l (i : Int)) (if b then 0 else 11) ∧ (b = true ↔ JP l i) := by
  have hl := lm.1
  have hx := lm.2 i hi
  unfold JP
  have e0 : rd_T44 l (i : Int) = ins l i := rfl
  by_cases c1 : (ins l i).f0 = 30 ∨ (ins l i).f0 = 31
  · have c32 : ¬ (ins l i).f0 = 32 := by omega
    refine ⟨decide (0 ≤ (ins l i).f1 ∧ (ins l i).f1 < (l.length : Int)), ⟨3, fun k hk => ?_⟩, ?_⟩
    · obtain ⟨k, rfl⟩ : ∃ m, k = m + 3 := ⟨k - 3, by omega⟩
      simp only [ladderbackref18_Jump.f]
      rw [if_neg (by omega), decide_eq_false (by omega)]
      simp only [ladderbackref18_Jump.j0, Bool.false_eq_true, if_false]
      rw [if_pos (by omega), if_pos (by omega), e0]
      generalize ins l i = x at c1 c32 hx
      have key : (if x.f1 < 0 then ladderbackref18_Jump.j1 (k + 2) l (i : Int) true x.f0 x.f1 x.f2 else ladderbackref18_Jump.j1 (k + 2) l (i : Int) (decide (x.f1 ≥ (l.length : Int))) x.f0 x.f1 x.f2) = some (if decide (0 ≤ x.f1 ∧ x.f1 < (l.length : Int)) = true then 0 else 11) := by
        by_cases h0 : x.f1 < 0
        · rw [if_pos h0, show decide (0 ≤ x.f1 ∧ x.f1 < (l.length : Int)) = false from decide_eq_false (by omega)]
          simp [ladderbackref18_Jump.j1]
        · rw [if_neg h0]
          by_cases h1 : x.f1 ≥ (l.length : Int)
          · rw [show decide (x.f1 ≥ (l.length : Int)) = true from decide_eq_true h1, show decide (0 ≤ x.f1 ∧ x.f1 < (l.length : Int)) = false from decide_eq_false (by omega)]
            simp [ladderbackref18_Jump.j1]
          · rw [show decide (x.f1 ≥ (l.length : Int)) = false from decide_eq_false h1, show decide (0 ≤ x.f1 ∧ x.f1 < (l.length : Int)) = true from decide_eq_true (by omega)]
            simp [ladderbackref18_Jump.j1, c32]
      rcases c1 with c | c
      · rw [if_pos c]; exact key
      · rw [if_neg (by omega), if_pos c]; exact key
    · rw [decide_eq_true_eq]
      constructor
      · intro h; exact ⟨fun _ => h, fun h2 => absurd h2 c32⟩
      · intro h; exact h.1 c1
  · have c30 : ¬ (ins l i).f0 = 30 := fun h => c1 (Or.inl h)
    have c31 : ¬ (ins l i).f0 = 31 := fun h => c1 (Or.inr h)
    by_cases c32 : (ins l i).f0 = 32
    · have ew : wrap64 (wrap64 ((l.length : Int) - (i : Int)) - 1) = (l.length : Int) - (i : Int) - 1 := by rw [w64_of (x := (l.length : Int) - (i : Int)) (by omega) (by omega), w64_of (by omega) (by omega)]
      by_cases hr : 0 ≤ (ins l i).f1 ∧ (ins l i).f1 < (l.length : Int) - (i : Int) - 1
      · obtain ⟨n, hn⟩ : ∃ n : Nat, (ins l i).f1 = (n : Int) := ⟨(ins l i).f1.toNat, by omega⟩
        obtain ⟨b, ⟨K, g⟩, hb⟩ := rjl_ev l hl i n (by omega) (ins l i).f0 (ins l i).f2 n 0 (by omega)
        simp only at g
        refine ⟨b, ⟨K + 3, fun k hk => ?_⟩, ?_⟩
        · obtain ⟨k, rfl⟩ : ∃ m, k = m + 3 := ⟨k - 3, by omega⟩
          have hg := g k (by omega)
          simp only [ladderbackref18_Jump.f]
          rw [if_neg (by omega), decide_eq_false (by omega)]
          simp only [ladderbackref18_Jump.j0, Bool.false_eq_true, if_false]
          rw [if_pos (by omega), if_pos (by omega), e0, if_neg c30, if_neg c31]
          simp only [ladderbackref18_Jump.j1, Bool.false_eq_true, if_false]
          rw [if_pos c32, if_neg (by omega), ew, decide_eq_false (by omega)]
          simp only [ladderbackref18_Jump.j2, Bool.false_eq_true, if_false]
          rw [hn]
          exact hg
        · rw [hb]
          constructor
          · intro h
            exact ⟨fun h2 => absurd h2 c1, fun _ => ⟨hr.1, hr.2, fun k hk => h k (Nat.zero_le _) (by omega)⟩⟩
          · intro h j _ hj
            exact (h.2 c32).2.2 j (by omega)
      · refine ⟨false, ⟨3, fun k hk => ?_⟩, ⟨fun h => (by cases h), fun h2 => absurd ⟨(h2.2 c32).1, (h2.2 c32).2.1⟩ hr⟩⟩
        obtain ⟨k, rfl⟩ : ∃ m, k = m + 3 := ⟨k - 3, by omega⟩
        simp only [ladderbackref18_Jump.f]
        rw [if_neg (by omega), decide_eq_false (by omega)]
        simp only [ladderbackref18_Jump.j0, Bool.false_eq_true, if_false]
        rw [if_pos (by omega), if_pos (by omega), e0, if_neg c30, if_neg c31]
        simp only [ladderbackref18_Jump.j1, Bool.false_eq_true, if_false]
        rw [if_pos c32, ew]
        by_cases h0 : (ins l i).f1 < 0
        · rw [if_pos h0]; rfl
        · rw [if_neg h0, decide_eq_true (by omega)]; rfl
    · refine ⟨true, ⟨2, fun k hk => ?_⟩, by simp; exact ⟨fun h => absurd h c1, fun h => absurd h c32⟩⟩
      obtain ⟨k, rfl⟩ : ∃ m, k = m + 2 := ⟨k - 2, by omega⟩
      simp only [ladderbackref18_Jump.f]
      rw [if_neg (by omega), decide_eq_false (by omega)]
      simp only [ladderbackref18_Jump.j0, Bool.false_eq_true, if_false]
      rw [if_pos (by omega), if_pos (by omega), e0, if_neg c30, if_neg c31]
      simp only [ladderbackref18_Jump.j1, Bool.false_eq_true, if_false]
      rw [if_neg c32]
      rfl
theorem rjumps_ev (l : List S44) (lm : Lim l) : ∃ b : Bool, Ev (fun k => ladderbackref30_Jumps.f k l) b ∧ (b = true ↔ JOk l) := by
  have hl := lm.1
  have key : ∀ r i : Nat, i + r = l.length → ∃ b : Bool, Ev (fun k => ladderbackref30_Jumps.l0 k l (i : Int)) b ∧ (b = true ↔ ∀ j, i ≤ j → j < l.length → JP l j) := by
    intro r
    induction r with
    | zero =>
      intro i hi
      refine ⟨true, ⟨1, fun k hk => ?_⟩, by simp; intro j h1 h2; omega⟩
      obtain ⟨k, rfl⟩ : ∃ m, k = m + 1 := ⟨k - 1, by omega⟩
      simp only [ladderbackref30_Jumps.l0]
      rw [if_neg (by omega)]
    | succ r ih =>
      intro i hi
      obtain ⟨b1, ⟨K1, g1⟩, hb1⟩ := rjump_ev l lm i (by omega)
      simp only at g1
      cases b1 with
      | true =>
        obtain ⟨b, ⟨K, g⟩, hb⟩ := ih (i + 1) (by omega)
        simp only at g
        refine ⟨b, ⟨max K K1 + 1, fun k hk => ?_⟩, ?_⟩
        · obtain ⟨k, rfl⟩ : ∃ m, k = m + 1 := ⟨k - 1, by omega⟩
          simp only [ladderbackref30_Jumps.l0]
          rw [if_pos (by omega), g1 k (by omega)]
          simp only [Option.bind_some, if_true]
          rw [wnext i (by omega)]
          exact g k (by omega)
        · rw [hb]
          constructor
          · intro h j h1 h2
            by_cases ej : j = i
            · subst ej; exact hb1.mp rfl
            · exact h j (by omega) h2
          · intro h j h1 h2; exact h j (by omega) h2
      | false =>
        refine ⟨false, ⟨K1 + 1, fun k hk => ?_⟩, ?_⟩
        · obtain ⟨k, rfl⟩ : ∃ m, k = m + 1 := ⟨k - 1, by omega⟩
          simp only [ladderbackref30_Jumps.l0]
          rw [if_pos (by omega), g1 k (by omega)]
          rfl
        · simp
          exact ⟨i, Nat.le_refl _, by omega, fun h => by have := hb1.mpr h; cases this⟩
  obtain ⟨b, ⟨K, g⟩, hb⟩ := key l.length 0 (by omega)
  simp only at g
  exact ⟨b, ⟨K, fun k hk => by simp only [ladderbackref30_Jumps.f]; exact g k hk⟩, by rw [hb]; exact ⟨fun h i hi => h i (Nat.zero_le _) hi, fun h j _ hj => h j hj⟩⟩
theorem rgl_ev (l : List S44) (hl : l.length ≤ 150) (i n : Nat) (hn : i + 1 + n ≤ l.length) (a c : Int) : ∀ r m : Nat, m + r = n → Ev (fun k => ladderbackref30_Goes.l0 k l (i : Int) ((List.range m).map fun k : Nat => (ins l (i + 1 + k)).f1) ((m + 1 : Nat) : Int) a (n : Int) c) (((List.range n).map fun k : Nat => (ins l (i + 1 + k)).f1) ++ [(i : Int) + 1 + (n : Int)]) := by
  intro r
  induction r with
  | zero =>
    intro m hm
    obtain rfl : m = n := by omega
    refine ⟨1, fun k hk => ?_⟩
    obtain ⟨k, rfl⟩ : ∃ m, k = m + 1 := ⟨k - 1, by omega⟩
    simp only [ladderbackref30_Goes.l0]
    rw [if_neg (by omega), if_pos (by rw [List.length_map, List.length_range]; omega), w64_of (x := (i : Int) + (m : Int)) (by omega) (by omega), w64_of (by omega) (by omega), show (i : Int) + (m : Int) + 1 = (i : Int) + 1 + (m : Int) by omega]
  | succ r ih =>
    intro m hm
    obtain ⟨K, g⟩ := ih (m + 1) (by omega)
    simp only at g
    refine ⟨K + 1, fun k hk => ?_⟩
    obtain ⟨k, rfl⟩ : ∃ m, k = m + 1 := ⟨k - 1, by omega⟩
    have hg := g k (by omega)
    rw [List.range_succ, List.map_append, List.map_cons, List.map_nil] at hg
    have e1 : wrap64 ((i : Int) + ((m + 1 : Nat) : Int)) = ((i + 1 + m : Nat) : Int) := by rw [w64_of (by omega) (by omega)]; omega
    simp only [ladderbackref30_Goes.l0]
    rw [if_pos (by omega), e1, if_pos (by omega), if_pos (by omega), if_pos (by rw [List.length_map, List.length_range]; omega), wnext (m + 1) (by omega)]
    exact hg
theorem rgoes_ev (l : List S44) (lm : Lim l) (jo : JOk l) (i : Nat) (hi : i < l.length) : Ev (fun k => ladderbackref30_Goes.f k l (i : Int)) (gs l i) := by
  have hl := lm.1
  have hj := jo i hi
  unfold JP at hj
  have e0 : rd_T44 l (i : Int) = ins l i := rfl
  have e1 : wrap64 ((i : Int) + 1) = (i : Int) + 1 := w64_of (by omega) (by omega)
  obtain ⟨b, ⟨K1, g1⟩, hb⟩ := rjumps_ev l lm
  obtain rfl : b = true := hb.mpr jo
  simp only at g1
  unfold gs
  by_cases c4 : (ins l i).f0 = 32
  · rw [if_neg (by omega), if_neg (by omega), if_neg (by omega), if_pos c4]
    have h32 := hj.2 c4
    obtain ⟨n, hn⟩ : ∃ n : Nat, (ins l i).f1 = (n : Int) := ⟨(ins l i).f1.toNat, by omega⟩
    obtain ⟨K, g⟩ := rgl_ev l hl i n (by omega) (ins l i).f0 (ins l i).f2 n 0 (by omega)
    simp only [List.range_zero, List.map_nil] at g
    refine ⟨max K K1 + 1, fun k hk => ?_⟩
    obtain ⟨k, rfl⟩ : ∃ m, k = m + 1 := ⟨k - 1, by omega⟩
    have hg := g k (by omega)
    simp only [ladderbackref30_Goes.f]
    rw [if_neg (by omega), if_neg (by omega), g1 (k + 1) (by omega)]
    simp only [Option.bind_some, Bool.not_true, ladderbackref30_Goes.j0, Bool.false_eq_true, if_false]
    rw [if_pos (by omega), if_pos (by omega), e0, if_pos c4, hn, Int.toNat_natCast]
    exact hg
  · rw [if_neg c4]
    refine ⟨K1 + 2, fun k hk => ?_⟩
    obtain ⟨k, rfl⟩ : ∃ m, k = m + 2 := ⟨k - 2, by omega⟩
    simp only [ladderbackref30_Goes.f]
    rw [if_neg (by omega), if_neg (by omega), g1 (k + 2) (by omega)]
    simp only [Option.bind_some, Bool.not_true, ladderbackref30_Goes.j0, Bool.false_eq_true, if_false]
    rw [if_pos (by omega), if_pos (by omega), e0, if_neg c4]
    generalize ins l i = x at c4
    by_cases c2 : x.f0 = 30
    · rw [if_pos c2]
      simp only [ladderbackref30_Goes.j2]
      simp [c2]
    · rw [if_neg c2]
      by_cases c1 : x.f0 = 34
      · simp only [ladderbackref30_Goes.j2]
        simp [c1]
      · simp only [ladderbackref30_Goes.j2]
        by_cases c3 : x.f0 = 31
        · simp [c3, e1]
        · simp [c1, c2, c3, e1]
/-- A pass over all places, from those that were met ahead of it. -/
structure PI (l : List S44) (M0 M : List Bool) (b : Bool) (v : Nat) : Prop where
  len : M.length = l.length
  m0 : M.getD 0 false = true
  rc : ∀ u, u < l.length → M.getD u false = true → Rc l u
  no : b = false → M = M0 ∧ ∀ u, u < v → M.getD u false = true → Cl l M u
  yes : b = true → fc M < fc M0
theorem set_same (M : List Bool) (u : Nat) (h : M.getD u false = true) : M.set u true = M := by
  apply List.ext_getElem?
  intro j
  by_cases hj : j = u
  · subst hj
    by_cases hl : j < M.length
    · simp [List.getD_eq_getElem?_getD, hl] at h
      simp [hl, h]
    · simp [hl]
  · simp [List.getElem?_set, Ne.symm hj]
theorem rl2_ev (l : List S44) (lm : Lim l) (jo : JOk l) (t : Int) (M0 : List Bool) (v : Nat) (hv : v < l.length) (ih : ∀ (M : List Bool) (b : Bool), PI l M0 M b (v + 1) → ∃ r, MetS l r ∧ Ev (fun k => ladderbackref30_Met.l1 k l M t b ((v + 1 : Nat) : Int)) r) :
    ∀ (r j : Nat) (M : List Bool) (b : Bool), j + r = (gs l v).length → PI l M0 M b v → M.getD v false = true → (b = false → ∀ t ∈ (gs l v).take j, ∃ u : Nat, t = (u : Int) ∧ u < l.length ∧ M.getD u false = true) →
    ∃ r, MetS l r ∧ Ev (fun k => ladderbackref30_Met.l2 k l M t b (v : Int) (gs l v) (j : Int)) r := by
  have hl := lm.1
  have hgl := gs_len lm jo hv
  intro r
  induction r with
  | zero =>
    intro j M b hj pi hvm ht
    obtain rfl : j = (gs l v).length := by omega
    rw [List.take_length] at ht
    obtain ⟨res, h1, K, g⟩ := ih M b ⟨pi.len, pi.m0, pi.rc, fun hb => ⟨(pi.no hb).1, fun u hu hum => by
      by_cases e : u = v
      · subst e; exact ht hb
      · exact (pi.no hb).2 u (by omega) hum⟩, pi.yes⟩
    simp only at g
    refine ⟨res, h1, K + 1, fun k hk => ?_⟩
    obtain ⟨k, rfl⟩ : ∃ m, k = m + 1 := ⟨k - 1, by omega⟩
    simp only [ladderbackref30_Met.l2]
    rw [if_neg (by omega), wnext v (by omega)]
    exact g k (by omega)
  | succ r ihr =>
    intro j M b hj pi hvm ht
    have hmem := rd_mem (gs l v) j (by omega)
    have hin := gs_in jo hv hmem
    have htk := take_rd (gs l v) j (by omega)
    have hml := pi.len
    by_cases hb : rd (gs l v) (j : Int) ≥ (l.length : Int)
    · have e : rd (gs l v) (j : Int) = (l.length : Int) := by omega
      refine ⟨[], Or.inl ⟨rfl, Or.inr (Or.inr ⟨v, pi.rc v hv hvm, e ▸ hmem⟩)⟩, 1, fun k hk => ?_⟩
      obtain ⟨k, rfl⟩ : ∃ m, k = m + 1 := ⟨k - 1, by omega⟩
      simp only [ladderbackref30_Met.l2]
      rw [if_pos (by omega), if_pos (by omega), if_pos hb]
    · obtain ⟨u, hu⟩ : ∃ u : Nat, rd (gs l v) (j : Int) = (u : Int) := ⟨(rd (gs l v) (j : Int)).toNat, by omega⟩
      have hul : u < l.length := by omega
      have hru : Rc l u := .step (pi.rc v hv hvm) (hu ▸ hmem) hul
      have hrd : rdOf false M (u : Int) = M.getD u false := by simp [rdOf]
      have sg := fun w => set_get M u w (by omega)
      have hset : ∀ b', (b' = true → fc (M.set u true) < fc M0) → (b' = false → b = false ∧ M.getD u false = true) → ∃ r, MetS l r ∧ Ev (fun k => ladderbackref30_Met.l2 k l (M.set u true) t b' (v : Int) (gs l v) ((j + 1 : Nat) : Int)) r := by
        intro b' h1 h2
        refine ihr (j + 1) (M.set u true) b' (by omega) ⟨by rw [List.length_set]; exact hml, (sg 0).mpr (Or.inr pi.m0), fun w hw h => by
            rcases (sg w).mp h with rfl | h
            · exact hru
            · exact pi.rc w hw h, fun hb' => ?_, h1⟩ ((sg v).mpr (Or.inr hvm)) (fun hb' t2 hmt => ?_)
        · obtain ⟨a1, a2⟩ := h2 hb'
          rw [set_same M u a2]
          exact pi.no a1
        · obtain ⟨a1, a2⟩ := h2 hb'
          rw [set_same M u a2]
          rw [htk, List.mem_append, List.mem_singleton] at hmt
          rcases hmt with h | h
          · exact ht a1 t2 h
          · exact ⟨u, by rw [h, hu], hul, a2⟩
      have hle : fc (M.set u true) ≤ fc M := by
        cases hM : M.getD u false with
        | true => rw [set_same M u hM]; exact Nat.le_refl _
        | false => have := fc_set M u (by omega) hM; omega
      cases b with
      | true =>
        obtain ⟨res, h1, K, g⟩ := hset true (fun _ => Nat.lt_of_le_of_lt hle (pi.yes rfl)) (fun h => by cases h)
        simp only at g
        refine ⟨res, h1, K + 1, fun k hk => ?_⟩
        obtain ⟨k, rfl⟩ : ∃ m, k = m + 1 := ⟨k - 1, by omega⟩
        simp only [ladderbackref30_Met.l2]
        rw [if_pos (by omega), if_pos (by omega), if_neg hb, if_pos trivial, if_pos (by omega), if_pos (by omega), hu, wnext j (by omega), Int.toNat_natCast]
        exact g k (by omega)
      | false =>
        cases hM : M.getD u false with
        | true =>
          obtain ⟨res, h1, K, g⟩ := hset false (fun h => by cases h) (fun _ => ⟨rfl, hM⟩)
          simp only at g
          refine ⟨res, h1, K + 1, fun k hk => ?_⟩
          obtain ⟨k, rfl⟩ : ∃ m, k = m + 1 := ⟨k - 1, by omega⟩
          simp only [ladderbackref30_Met.l2]
          rw [if_pos (by omega), if_pos (by omega), if_neg hb, if_neg (by simp), if_pos (by omega), if_pos (by omega), hu, hrd, hM, wnext j (by omega), Int.toNat_natCast]
          exact g k (by omega)
        | false =>
          have hfs := fc_set M u (by omega) hM
          obtain ⟨res, h1, K, g⟩ := hset true (fun _ => by rw [← (pi.no rfl).1]; omega) (fun h => by cases h)
          simp only at g
          refine ⟨res, h1, K + 1, fun k hk => ?_⟩
          obtain ⟨k, rfl⟩ : ∃ m, k = m + 1 := ⟨k - 1, by omega⟩
          simp only [ladderbackref30_Met.l2]
          rw [if_pos (by omega), if_pos (by omega), if_neg hb, if_neg (by simp), if_pos (by omega), if_pos (by omega), hu, hrd, hM, wnext j (by omega), Int.toNat_natCast]
          exact g k (by omega)
theorem rl1_ev (l : List S44) (lm : Lim l) (jo : JOk l) (h0 : 0 < l.length) (t : Nat) (ht : t < l.length) (M0 : List Bool) (ih : ∀ (M : List Bool), M.length = l.length → M.getD 0 false = true → (∀ u, u < l.length → M.getD u false = true → Rc l u) → fc M < fc M0 → ∃ r, MetS l r ∧ Ev (fun k => ladderbackref30_Met.l0 k l M ((t + 1 : Nat) : Int)) r) :
    ∀ (r v : Nat) (M : List Bool) (b : Bool), v + r = l.length → PI l M0 M b v → ∃ r, MetS l r ∧ Ev (fun k => ladderbackref30_Met.l1 k l M (t : Int) b (v : Int)) r := by
  have hl := lm.1
  intro r
  induction r with
  | zero =>
    intro v M b hv pi
    cases b with
    | true =>
      obtain ⟨res, h1, K, g⟩ := ih M pi.len pi.m0 pi.rc (pi.yes rfl)
      simp only at g
      refine ⟨res, h1, K + 1, fun k hk => ?_⟩
      obtain ⟨k, rfl⟩ : ∃ m, k = m + 1 := ⟨k - 1, by omega⟩
      simp only [ladderbackref30_Met.l1]
      rw [if_neg (by omega), if_pos trivial, wnext t (by omega)]
      exact g k (by omega)
    | false =>
      refine ⟨M, met_done jo h0 pi.len pi.m0 pi.rc (fun u hu h => (pi.no rfl).2 u (by omega) h), 1, fun k hk => ?_⟩
      obtain ⟨k, rfl⟩ : ∃ m, k = m + 1 := ⟨k - 1, by omega⟩
      simp only [ladderbackref30_Met.l1]
      rw [if_neg (by omega), if_neg (by simp)]
  | succ r ihr =>
    intro v M b hv pi
    have hml := pi.len
    have hrd : rdOf false M (v : Int) = M.getD v false := by simp [rdOf]
    cases hM : M.getD v false with
    | false =>
      obtain ⟨res, h1, K, g⟩ := ihr (v + 1) M b (by omega) ⟨pi.len, pi.m0, pi.rc, fun hb => ⟨(pi.no hb).1, fun u hu hum => by
        by_cases e : u = v
        · subst e; rw [hM] at hum; cases hum
        · exact (pi.no hb).2 u (by omega) hum⟩, pi.yes⟩
      simp only at g
      refine ⟨res, h1, K + 1, fun k hk => ?_⟩
      obtain ⟨k, rfl⟩ : ∃ m, k = m + 1 := ⟨k - 1, by omega⟩
      simp only [ladderbackref30_Met.l1]
      rw [if_pos (by omega), if_pos (by omega), if_pos (by omega), hrd, hM, if_neg (by simp), wnext v (by omega)]
      exact g k (by omega)
    | true =>
      obtain ⟨res, h1, K, g⟩ := rl2_ev l lm jo (t : Int) M0 v (by omega) (fun M b pi => ihr (v + 1) M b (by omega) pi) (gs l v).length 0 M b (by omega) pi hM (by simp)
      obtain ⟨K2, g2⟩ := rgoes_ev l lm jo v (by omega)
      simp only at g g2
      refine ⟨res, h1, max K K2 + 1, fun k hk => ?_⟩
      obtain ⟨k, rfl⟩ : ∃ m, k = m + 1 := ⟨k - 1, by omega⟩
      simp only [ladderbackref30_Met.l1]
      rw [if_pos (by omega), if_pos (by omega), if_pos (by omega), hrd, hM, if_pos rfl, g2 k (by omega)]
      simp only [Option.bind_some]
      exact g k (by omega)
theorem rl0_ev (l : List S44) (lm : Lim l) (jo : JOk l) (h0 : 0 < l.length) : ∀ (c t : Nat) (M : List Bool), fc M ≤ c → t + fc M + 1 ≤ l.length → M.length = l.length → M.getD 0 false = true → (∀ u, u < l.length → M.getD u false = true → Rc l u) → ∃ r, MetS l r ∧ Ev (fun k => ladderbackref30_Met.l0 k l M (t : Int)) r := by
  intro c
  induction c with
  | zero =>
    intro t M hc ht hml hm0 hmr
    obtain ⟨res, h1, K, g⟩ := rl1_ev l lm jo h0 t (by omega) M (fun M' _ _ _ h => by omega) l.length 0 M false (by omega) ⟨hml, hm0, hmr, fun _ => ⟨rfl, fun u hu => by omega⟩, fun h => by cases h⟩
    simp only at g
    refine ⟨res, h1, K + 1, fun k hk => ?_⟩
    obtain ⟨k, rfl⟩ : ∃ m, k = m + 1 := ⟨k - 1, by omega⟩
    simp only [ladderbackref30_Met.l0]
    rw [if_pos (by omega)]
    exact g k (by omega)
  | succ c ih =>
    intro t M hc ht hml hm0 hmr
    obtain ⟨res, h1, K, g⟩ := rl1_ev l lm jo h0 t (by omega) M (fun M' a1 a2 a3 h => ih (t + 1) M' (by omega) (by omega) a1 a2 a3) l.length 0 M false (by omega) ⟨hml, hm0, hmr, fun _ => ⟨rfl, fun u hu => by omega⟩, fun h => by cases h⟩
    simp only at g
    refine ⟨res, h1, K + 1, fun k hk => ?_⟩
    obtain ⟨k, rfl⟩ : ∃ m, k = m + 1 := ⟨k - 1, by omega⟩
    simp only [ladderbackref30_Met.l0]
    rw [if_pos (by omega)]
    exact g k (by omega)
theorem rmet_ev (l : List S44) (lm : Lim l) : ∃ r, MetS l r ∧ Ev (fun k => ladderbackref30_Met.f k l) r := by
  have hl := lm.1
  by_cases h0 : l.length = 0
  · refine ⟨[], Or.inl ⟨rfl, Or.inl h0⟩, 1, fun k hk => ?_⟩
    obtain ⟨k, rfl⟩ : ∃ m, k = m + 1 := ⟨k - 1, by omega⟩
    simp only [ladderbackref30_Met.f]
    rw [if_pos (by omega)]
    rfl
  · obtain ⟨b, ⟨K1, g1⟩, hb⟩ := rjumps_ev l lm
    simp only at g1
    cases b with
    | false =>
      refine ⟨[], Or.inl ⟨rfl, Or.inr (Or.inl fun h => by have := hb.mpr h; cases this)⟩, K1 + 1, fun k hk => ?_⟩
      obtain ⟨k, rfl⟩ : ∃ m, k = m + 1 := ⟨k - 1, by omega⟩
      simp only [ladderbackref30_Met.f]
      rw [if_neg (by omega), g1 (k + 1) (by omega)]
      rfl
    | true =>
      have jo := hb.mp rfl
      have hrep := fc_rep l.length (by omega)
      have sg := fun w => set_get (List.replicate l.length false) 0 w (by simpa using Nat.pos_of_ne_zero h0)
      have hno : ∀ w, ¬ (List.replicate l.length false).getD w false = true := by
        intro w
        by_cases hw : w < l.length <;> simp [List.getD_eq_getElem?_getD, hw]
      obtain ⟨res, h1, K, g⟩ := rl0_ev l lm jo (by omega) l.length 0 ((List.replicate l.length false).set 0 true) (by omega) (by omega) (by simp) ((sg 0).mpr (Or.inl rfl)) (fun v hv h => by
          rcases (sg v).mp h with rfl | h
          · exact .root (by omega)
          · exact absurd h (hno v))
      simp only at g
      refine ⟨res, h1, max K K1 + 1, fun k hk => ?_⟩
      obtain ⟨k, rfl⟩ : ∃ m, k = m + 1 := ⟨k - 1, by omega⟩
      simp only [ladderbackref30_Met.f]
      rw [if_neg (by omega), g1 (k + 1) (by omega)]
      simp only [Option.bind_some, Bool.not_true, ladderbackref30_Met.j0, Bool.false_eq_true, if_false]
      rw [if_pos (by omega), if_pos (by omega), Int.toNat_natCast, List.length_replicate, if_pos (by omega)]
      exact g k (by omega)
end Go.Proofs.Ytfiffhcpgojkhaa.PfrFlowBlocks
