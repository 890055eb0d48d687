/- flow: jumps, where one goes on from a place, which places are met; plain. No condition but that the code is short. -/
import Derived.Test.YtfiffhcpgojkhaaQFlowBlocksx
import Derived.Test.YtfiffhcpgojkhaaPdC
namespace Go.Proofs.Ytfiffhcpgojkhaa.PflFlowBlocks
open Go.Proofs.Ytfiffhcpgojkhaa Go.Proofs.Ytfiffhcpgojkhaa.QFlowBlocks Go.Proofs.Ytfiffhcpgojkhaa.PdC Go.RowKit Go.Proofs.YtfiffhcpgojkhaaW.PrintWords Go.Proofs.YtfiffhcpgojkhaaW.PrintLast Go.Proofs.YtfiffhcpgojkhaaW.PrintMore
set_option linter.unusedSimpArgs false
set_option linter.unusedVariables false
abbrev ins (l : List S44) (i : Nat) : S44 := rd_T44 l (i : Int)
/-- The code is short, its operands are numbers of 64 bits. -/
def Lim (l : List S44) : Prop := l.length ≤ 150 ∧ ∀ i : Nat, i < l.length → -9223372036854775808 ≤ (ins l i).f1 ∧ (ins l i).f1 ≤ 9223372036854775807
theorem ins_drop (l : List S44) (m j : Nat) : ins (l.drop m) j = ins l (m + j) := by
  simp only [ins, rd_T44, Int.toNat_natCast]
  simp [List.getD_eq_getElem?_getD]
theorem ins_take (l : List S44) (m j : Nat) (h : j < m) : ins (l.take m) j = ins l j := by simp [ins, rd_T44, List.getD_eq_getElem?_getD, List.getElem?_take, h]
/-- A place's jump is there. -/
def JP (l : List S44) (i : Nat) : Prop := ((ins l i).f0 = 30 ∨ (ins l i).f0 = 31 → 0 ≤ (ins l i).f1 ∧ (ins l i).f1 < (l.length : Int)) ∧ ((ins l i).f0 = 32 → 0 ≤ (ins l i).f1 ∧ (ins l i).f1 < (l.length : Int) - (i : Int) - 1 ∧ ∀ k : Nat, (k : Int) < (ins l i).f1 → (ins l (i + 1 + k)).f0 = 30)
def JOk (l : List S44) : Prop := ∀ i, i < l.length → JP l i
theorem jl_ev (Y : List S44) (hY : Y.length ≤ 1000) : ∀ r m : Nat, m + r = Y.length → ∃ b : Bool, Ev (fun k => refs_Jump.l0 k true Y (Y.length : Int) (m : Int)) (if b then 0 else 11) ∧ (b = true ↔ ∀ j, m ≤ j → j < Y.length → (ins Y j).f0 = 30) := by
  intro r
  induction r with
  | zero =>
    intro m hm
    refine ⟨true, ⟨1, fun k hk => ?_⟩, by simp; intro j h1 h2; omega⟩
    obtain ⟨k, rfl⟩ : ∃ m, k = m + 1 := ⟨k - 1, by omega⟩
    simp only [refs_Jump.l0]
    rw [if_neg (by omega)]
    rfl
  | succ r ih =>
    intro m hm
    by_cases e : (ins Y m).f0 = 30
    · obtain ⟨b, ⟨K, g⟩, hb⟩ := ih (m + 1) (by omega)
      simp only at g
      refine ⟨b, ⟨K + 1, fun k hk => ?_⟩, ?_⟩
      · obtain ⟨k, rfl⟩ : ∃ m, k = m + 1 := ⟨k - 1, by omega⟩
        simp only [refs_Jump.l0]
        rw [if_pos (by omega), if_pos (by omega), if_pos (by omega), if_pos e, wnext m (by omega)]
        exact g k (by omega)
      · rw [hb]
        constructor
        · intro h j h1 h2
          by_cases ej : j = m
          · subst ej; exact e
          · exact h j (by omega) h2
        · intro h j h1 h2; exact h j (by omega) h2
    · refine ⟨false, ⟨1, fun k hk => ?_⟩, ?_⟩
      · obtain ⟨k, rfl⟩ : ∃ m, k = m + 1 := ⟨k - 1, by omega⟩
        simp only [refs_Jump.l0]
        rw [if_pos (by omega), if_pos (by omega), if_pos (by omega), if_neg e]
        rfl
      · simp
        exact ⟨m, Nat.le_refl _, by omega, e⟩
theorem jump_ev (l : List S44) (lm : Lim l) (i : Nat) (hi : i < l.length) : ∃ b : Bool, Ev (fun k => refs_Jump.f k l (i : Int)) (if b then 0 else 11) ∧ (b = true ↔ JP l i) := by
  have hl := lm.1
  have hx := lm.2 i hi
  unfold JP
  have e0 : rd_T44 l (i : Int) = ins l i := rfl
  by_cases c1 : (ins l i).f0 = 30 ∨ (ins l i).f0 = 31
  · have c32 : ¬ (ins l i).f0 = 32 := by omega
    refine ⟨decide (0 ≤ (ins l i).f1 ∧ (ins l i).f1 < (l.length : Int)), ⟨2, fun k hk => ?_⟩, ?_⟩
    · obtain ⟨k, rfl⟩ : ∃ m, k = m + 2 := ⟨k - 2, by omega⟩
      simp only [refs_Jump.f]
      rw [if_neg (by omega), decide_eq_false (by omega)]
      simp only [refs_Jump.j0, Bool.false_eq_true, if_false]
      rw [if_pos (by omega), if_pos (by omega), e0]
      generalize ins l i = x at c1 hx
      rcases c1 with c | c
      · rw [if_pos c, c]
        simp only [refs_Jump.j1]
        rw [if_pos (by decide)]
        by_cases h0 : x.f1 ≥ 0
        · rw [if_pos h0]
          by_cases h1 : x.f1 < (l.length : Int)
          · rw [if_pos h1, decide_eq_true ⟨h0, h1⟩]; rfl
          · rw [if_neg h1, decide_eq_false (fun h => h1 h.2)]; rfl
        · rw [if_neg h0, decide_eq_false (fun h => h0 h.1)]; rfl
      · rw [if_neg (by omega), c]
        simp only [refs_Jump.j1]
        rw [if_pos (by decide)]
        by_cases h0 : x.f1 ≥ 0
        · rw [if_pos h0]
          by_cases h1 : x.f1 < (l.length : Int)
          · rw [if_pos h1, decide_eq_true ⟨h0, h1⟩]; rfl
          · rw [if_neg h1, decide_eq_false (fun h => h1 h.2)]; rfl
        · rw [if_neg h0, decide_eq_false (fun h => h0 h.1)]; rfl
    · rw [decide_eq_true_eq]
      constructor
      · intro h; exact ⟨fun _ => h, fun h2 => absurd h2 c32⟩
      · intro h; exact h.1 c1
  · have c30 : ¬ (ins l i).f0 = 30 := fun h => c1 (Or.inl h)
    have c31 : ¬ (ins l i).f0 = 31 := fun h => c1 (Or.inr h)
    by_cases c32 : (ins l i).f0 = 32
    · by_cases hr : 0 ≤ (ins l i).f1 ∧ (ins l i).f1 < (l.length : Int) - (i : Int) - 1
      · obtain ⟨n, hn⟩ : ∃ n : Nat, (ins l i).f1 = (n : Int) := ⟨(ins l i).f1.toNat, by omega⟩
        have hYl : ((l.drop (i + 1)).take n).length = n := by rw [List.length_take, List.length_drop]; omega
        obtain ⟨b, ⟨K, g⟩, hb⟩ := jl_ev ((l.drop (i + 1)).take n) (by omega) n 0 (by omega)
        simp only at g
        refine ⟨b, ⟨K + 3, fun k hk => ?_⟩, ?_⟩
        · obtain ⟨k, rfl⟩ : ∃ m, k = m + 3 := ⟨k - 3, by omega⟩
          have hg := g k (by omega)
          simp only [refs_Jump.f]
          rw [if_neg (by omega), decide_eq_false (by omega)]
          simp only [refs_Jump.j0, Bool.false_eq_true, if_false]
          rw [if_pos (by omega), if_pos (by omega), e0, if_neg c30, show ((ins l i).f0 == 31) = false from beq_eq_false_iff_ne.mpr c31]
          simp only [refs_Jump.j1, Bool.false_eq_true, if_false]
          rw [if_pos c32, wnext i (by omega), if_pos (by omega), if_pos (by omega)]
          simp only [Option.bind_some]
          rw [if_neg (by omega), Int.toNat_natCast, List.length_drop, hn, decide_eq_false (by omega)]
          simp only [refs_Jump.j2, Bool.false_eq_true, if_false]
          rw [if_pos (by omega), List.length_drop, if_pos (by omega), Int.toNat_natCast]
          simp only [Option.bind_some]
          exact hg
        · rw [hb]
          constructor
          · intro h
            refine ⟨fun h2 => absurd h2 c1, fun _ => ⟨hr.1, hr.2, fun k hk => ?_⟩⟩
            have h3 := h k (Nat.zero_le _) (by omega)
            rw [ins_take _ _ _ (by omega), ins_drop] at h3
            exact h3
          · intro h j _ hj
            rw [ins_take _ _ _ (by omega), ins_drop]
            exact (h.2 c32).2.2 j (by omega)
      · refine ⟨false, ⟨3, fun k hk => ?_⟩, ⟨fun h => (by cases h), fun h2 => absurd ⟨(h2.2 c32).1, (h2.2 c32).2.1⟩ hr⟩⟩
        obtain ⟨k, rfl⟩ : ∃ m, k = m + 3 := ⟨k - 3, by omega⟩
        simp only [refs_Jump.f]
        rw [if_neg (by omega), decide_eq_false (by omega)]
        simp only [refs_Jump.j0, Bool.false_eq_true, if_false]
        rw [if_pos (by omega), if_pos (by omega), e0, if_neg c30, show ((ins l i).f0 == 31) = false from beq_eq_false_iff_ne.mpr c31]
        simp only [refs_Jump.j1, Bool.false_eq_true, if_false]
        rw [if_pos c32, wnext i (by omega), if_pos (by omega), if_pos (by omega)]
        simp only [Option.bind_some]
        by_cases h0 : (ins l i).f1 < 0
        · rw [if_pos h0]; rfl
        · rw [if_neg h0, Int.toNat_natCast, List.length_drop, decide_eq_true (by omega)]; rfl
    · refine ⟨true, ⟨2, fun k hk => ?_⟩, by simp; exact ⟨fun h => absurd h c1, fun h => absurd h c32⟩⟩
      obtain ⟨k, rfl⟩ : ∃ m, k = m + 2 := ⟨k - 2, by omega⟩
      simp only [refs_Jump.f]
      rw [if_neg (by omega), decide_eq_false (by omega)]
      simp only [refs_Jump.j0, Bool.false_eq_true, if_false]
      rw [if_pos (by omega), if_pos (by omega), e0, if_neg c30, show ((ins l i).f0 == 31) = false from beq_eq_false_iff_ne.mpr c31]
      simp only [refs_Jump.j1, Bool.false_eq_true, if_false]
      rw [if_neg c32]
      rfl
theorem jumps_ev (l : List S44) (lm : Lim l) : ∃ b : Bool, Ev (fun k => flow_jumps.f k l) b ∧ (b = true ↔ JOk l) := by
  have hl := lm.1
  have key : ∀ r i : Nat, i + r = l.length → ∃ b : Bool, Ev (fun k => flow_jumps.l0 k l (l.length : Int) (i : Int)) b ∧ (b = true ↔ ∀ j, i ≤ j → j < l.length → JP l j) := by
    intro r
    induction r with
    | zero =>
      intro i hi
      refine ⟨true, ⟨1, fun k hk => ?_⟩, by simp; intro j h1 h2; omega⟩
      obtain ⟨k, rfl⟩ : ∃ m, k = m + 1 := ⟨k - 1, by omega⟩
      simp only [flow_jumps.l0]
      rw [if_neg (by omega)]
    | succ r ih =>
      intro i hi
      obtain ⟨b1, ⟨K1, g1⟩, hb1⟩ := jump_ev l lm i (by omega)
      simp only at g1
      cases b1 with
      | true =>
        obtain ⟨b, ⟨K, g⟩, hb⟩ := ih (i + 1) (by omega)
        simp only at g
        refine ⟨b, ⟨max K K1 + 1, fun k hk => ?_⟩, ?_⟩
        · obtain ⟨k, rfl⟩ : ∃ m, k = m + 1 := ⟨k - 1, by omega⟩
          simp only [flow_jumps.l0]
          rw [if_pos (by omega), g1 k (by omega)]
          simp only [Option.bind_some, if_true]
          rw [wnext i (by omega)]
          exact g k (by omega)
        · rw [hb]
          constructor
          · intro h j h1 h2
            by_cases ej : j = i
            · subst ej; exact hb1.mp rfl
            · exact h j (by omega) h2
          · intro h j h1 h2; exact h j (by omega) h2
      | false =>
        refine ⟨false, ⟨K1 + 1, fun k hk => ?_⟩, ?_⟩
        · obtain ⟨k, rfl⟩ : ∃ m, k = m + 1 := ⟨k - 1, by omega⟩
          simp only [flow_jumps.l0]
          rw [if_pos (by omega), g1 k (by omega)]
          rfl
        · simp
          exact ⟨i, Nat.le_refl _, by omega, fun h => by have := hb1.mpr h; cases this⟩
  obtain ⟨b, ⟨K, g⟩, hb⟩ := key l.length 0 (by omega)
  simp only at g
  exact ⟨b, ⟨K, fun k hk => by simp only [flow_jumps.f]; exact g k hk⟩, by rw [hb]; exact ⟨fun h i hi => h i (Nat.zero_le _) hi, fun h j _ hj => h j hj⟩⟩
/-- Where one goes on from a place. -/
def gs (l : List S44) (i : Nat) : List Int := if (ins l i).f0 = 34 then [] else if (ins l i).f0 = 30 then [(ins l i).f1] else if (ins l i).f0 = 31 then [(i : Int) + 1, (ins l i).f1] else if (ins l i).f0 = 32 then ((List.range (ins l i).f1.toNat).map fun k : Nat => (ins l (i + 1 + k)).f1) ++ [(i : Int) + 1 + (ins l i).f1] else [(i : Int) + 1]
theorem gs_in {l : List S44} (jo : JOk l) {i : Nat} (hi : i < l.length) {t : Int} (h : t ∈ gs l i) : 0 ≤ t ∧ t ≤ (l.length : Int) := by
  have hj := jo i hi
  unfold JP at hj
  unfold gs at h
  split at h
  · cases h
  split at h
  · rename_i c
    have := hj.1 (Or.inl c)
    rw [List.mem_singleton] at h
    omega
  split at h
  · rename_i c
    have := hj.1 (Or.inr c)
    rcases List.mem_cons.mp h with h | h
    · omega
    · rw [List.mem_singleton] at h; omega
  split at h
  · rename_i c
    have h32 := hj.2 c
    rw [List.mem_append, List.mem_map, List.mem_singleton] at h
    rcases h with ⟨k, hk, rfl⟩ | h
    · have hk2 := List.mem_range.mp hk
      have h30 := h32.2.2 k (by omega)
      have h3 := (jo (i + 1 + k) (by omega)).1 (Or.inl h30)
      omega
    · omega
  · rw [List.mem_singleton] at h; omega
theorem gs_len {l : List S44} (lm : Lim l) (jo : JOk l) {i : Nat} (hi : i < l.length) : (gs l i).length ≤ 152 := by
  have hl := lm.1
  have hj := jo i hi
  unfold JP at hj
  unfold gs
  split
  · simp
  split
  · simp
  split
  · simp
  split
  · rename_i c
    have h32 := hj.2 c
    rw [List.length_append, List.length_map, List.length_range]
    simp only [List.length_cons, List.length_nil]
    omega
  · simp
theorem gl_ev (i n : Nat) (hi : i ≤ 150) (hn : n ≤ 150) (Y : List S44) (hY : Y.length = n) (a b c : Int) (hb : b = (n : Int)) : ∀ r m : Nat, m + r = n → Ev (fun k => flow_goes.l0 k (i : Int) ((List.range m).map fun k : Nat => (ins Y k).f1) Y (Y.length : Int) (m : Int) a b c) (((List.range n).map fun k : Nat => (ins Y k).f1) ++ [(i : Int) + 1 + b]) := by
  subst hb
  intro r
  induction r with
  | zero =>
    intro m hm
    obtain rfl : m = n := by omega
    refine ⟨1, fun k hk => ?_⟩
    obtain ⟨k, rfl⟩ : ∃ m, k = m + 1 := ⟨k - 1, by omega⟩
    simp only [flow_goes.l0]
    rw [if_neg (by omega), if_pos (by rw [List.length_map, List.length_range]; omega), w64_of (x := (i : Int) + 1) (by omega) (by omega), w64_of (by omega) (by omega)]
  | succ r ih =>
    intro m hm
    obtain ⟨K, g⟩ := ih (m + 1) (by omega)
    simp only at g
    refine ⟨K + 1, fun k hk => ?_⟩
    obtain ⟨k, rfl⟩ : ∃ m, k = m + 1 := ⟨k - 1, by omega⟩
    have hg := g k (by omega)
    rw [List.range_succ, List.map_append, List.map_cons, List.map_nil] at hg
    simp only [flow_goes.l0]
    rw [if_pos (by omega), if_pos (by omega), if_pos (by omega), if_pos (by rw [List.length_map, List.length_range]; omega), wnext m (by omega)]
    exact hg
theorem goes_ev (l : List S44) (lm : Lim l) (jo : JOk l) (i : Nat) (hi : i < l.length) : Ev (fun k => flow_goes.f k l (i : Int)) (gs l i) := by
  have hl := lm.1
  have hj := jo i hi
  unfold JP at hj
  have e0 : rd_T44 l (i : Int) = ins l i := rfl
  have e1 : wrap64 ((i : Int) + 1) = (i : Int) + 1 := w64_of (by omega) (by omega)
  unfold gs
  by_cases c1 : (ins l i).f0 = 34
  · rw [if_pos c1]
    exact ⟨0, fun k _ => by simp only [flow_goes.f]; rw [if_pos (by omega), if_pos (by omega), e0, if_pos c1]⟩
  rw [if_neg c1]
  by_cases c2 : (ins l i).f0 = 30
  · rw [if_pos c2]
    exact ⟨0, fun k _ => by simp only [flow_goes.f]; rw [if_pos (by omega), if_pos (by omega), e0, if_neg c1, if_pos c2]⟩
  rw [if_neg c2]
  by_cases c3 : (ins l i).f0 = 31
  · rw [if_pos c3]
    exact ⟨0, fun k _ => by simp only [flow_goes.f]; rw [if_pos (by omega), if_pos (by omega), e0, if_neg c1, if_neg c2, if_pos c3, e1]⟩
  rw [if_neg c3]
  by_cases c4 : (ins l i).f0 = 32
  · rw [if_pos c4]
    have h32 := hj.2 c4
    obtain ⟨n, hn⟩ : ∃ n : Nat, (ins l i).f1 = (n : Int) := ⟨(ins l i).f1.toNat, by omega⟩
    have hYl : ((l.take (i + 1 + n)).drop (i + 1)).length = n := by rw [List.length_drop, List.length_take]; omega
    obtain ⟨K, g⟩ := gl_ev i n (by omega) (by omega) ((l.take (i + 1 + n)).drop (i + 1)) hYl (ins l i).f0 (ins l i).f1 (ins l i).f2 hn n 0 (by omega)
    simp only [List.range_zero, List.map_nil] at g
    have eR : ((List.range n).map fun k : Nat => (ins ((l.take (i + 1 + n)).drop (i + 1)) k).f1) = (List.range (ins l i).f1.toNat).map fun k : Nat => (ins l (i + 1 + k)).f1 := by
      rw [hn, Int.toNat_natCast]
      refine List.map_congr_left fun k hk => ?_
      have := List.mem_range.mp hk
      rw [ins_drop, ins_take _ _ _ (by omega)]
    rw [eR] at g
    refine ⟨K, fun k hk => ?_⟩
    have hg := g k hk
    simp only [flow_goes.f]
    rw [if_pos (by omega), if_pos (by omega), e0, if_neg c1, if_neg c2, if_neg c3, if_pos c4, e1, w64_of (x := (i : Int) + 1 + (ins l i).f1) (by omega) (by omega), if_pos (by omega), if_pos (by omega), if_pos (by omega)]
    simp only [Option.bind_some]
    rw [show ((i : Int) + 1 + (ins l i).f1).toNat = i + 1 + n by omega, show ((i : Int) + 1).toNat = i + 1 by omega]
    exact hg
  · rw [if_neg c4]
    exact ⟨0, fun k _ => by simp only [flow_goes.f]; rw [if_pos (by omega), if_pos (by omega), e0, if_neg c1, if_neg c2, if_neg c3, if_neg c4, e1]⟩
/-- The places to which one comes. -/
inductive Rc (l : List S44) : Nat → Prop
  | root : 0 < l.length → Rc l 0
  | step {i t : Nat} : Rc l i → (t : Int) ∈ gs l i → t < l.length → Rc l t
theorem Rc.lt {l : List S44} {v : Nat} (h : Rc l v) : v < l.length := by cases h with | root h => exact h | step _ _ h => exact h
/-- One comes beyond the code. -/
def Bad (l : List S44) : Prop := ∃ i, Rc l i ∧ (l.length : Int) ∈ gs l i
def MetS (l : List S44) (r : List Bool) : Prop := (r = [] ∧ (l.length = 0 ∨ ¬ JOk l ∨ Bad l)) ∨ (r.length = l.length ∧ 0 < l.length ∧ JOk l ∧ ¬ Bad l ∧ ∀ v, v < l.length → (r.getD v false = true ↔ Rc l v))
theorem MetS.uniq {l : List S44} {a b : List Bool} (ha : MetS l a) (hb : MetS l b) : a = b := by
  rcases ha with ⟨rfl, h⟩ | ⟨h1, h2, h3, h4, h5⟩
  · rcases hb with ⟨rfl, _⟩ | ⟨_, k2, k3, k4, _⟩
    · rfl
    · exfalso
      rcases h with h | h | h
      · omega
      · exact h k3
      · exact k4 h
  · rcases hb with ⟨rfl, h⟩ | ⟨k1, k2, k3, k4, k5⟩
    · exfalso
      rcases h with h | h | h
      · omega
      · exact h h3
      · exact h4 h
    · refine List.ext_getElem (by omega) fun v hv1 hv2 => ?_
      have e1 := h5 v (by omega)
      have e2 := k5 v (by omega)
      simp only [List.getD_eq_getElem?_getD, hv1, hv2, List.getElem?_eq_getElem, Option.getD_some] at e1 e2
      exact Bool.eq_iff_iff.mpr (e1.trans e2.symm)
def fc (M : List Bool) : Nat := M.count false
theorem fc_set : ∀ (M : List Bool) (i : Nat), i < M.length → M.getD i false = false → fc (M.set i true) + 1 = fc M := by
  intro M
  induction M with
  | nil => intro i h; simp at h
  | cons b M ih =>
    intro i hi h
    cases i with
    | zero => simp at h; subst h; simp [fc]
    | succ i =>
      have h2 := ih i (by simpa using hi) (by simpa using h)
      unfold fc at h2 ⊢
      rw [List.set_cons_succ]
      cases b
      · simp only [List.count_cons_self]; omega
      · rw [List.count_cons_of_ne (by decide), List.count_cons_of_ne (by decide)]; exact h2
theorem set_get (M : List Bool) (i v : Nat) (hi : i < M.length) : (M.set i true).getD v false = true ↔ v = i ∨ M.getD v false = true := by
  by_cases h : v = i
  · subst h; simp [List.getD_eq_getElem?_getD, hi]
  · simp [List.getD_eq_getElem?_getD, List.getElem?_set, Ne.symm h, h]
theorem fc_rep (n : Nat) (hn : 0 < n) : fc ((List.replicate n false).set 0 true) + 1 = n := by
  rw [fc_set _ _ (by simpa using hn) (by simp [List.getD_eq_getElem?_getD, hn])]
  simp [fc]
/-- All to which one goes on from a place is met. -/
def Cl (l : List S44) (M : List Bool) (v : Nat) : Prop := ∀ t ∈ gs l v, ∃ u : Nat, t = (u : Int) ∧ u < l.length ∧ M.getD u false = true
theorem Cl.set {l : List S44} {M : List Bool} {v i : Nat} (hi : i < M.length) (h : Cl l M v) : Cl l (M.set i true) v := by
  intro t ht
  obtain ⟨u, a, b, c⟩ := h t ht
  exact ⟨u, a, b, (set_get M i u hi).mpr (Or.inr c)⟩
theorem met_done {l : List S44} {M : List Bool} (jo : JOk l) (h0 : 0 < l.length) (hl : M.length = l.length) (hm : M.getD 0 false = true) (hr : ∀ v, v < l.length → M.getD v false = true → Rc l v) (hc : ∀ v, v < l.length → M.getD v false = true → Cl l M v) : MetS l M := by
  have key : ∀ v, Rc l v → M.getD v false = true := by
    intro v h
    induction h with
    | root _ => exact hm
    | @step i t h1 h2 h3 ih =>
      obtain ⟨u, a, b, c⟩ := hc i h1.lt ih _ h2
      have : t = u := by omega
      subst this
      exact c
  refine Or.inr ⟨hl, h0, jo, ?_, fun v hv => ⟨hr v hv, key v⟩⟩
  rintro ⟨i, h1, h2⟩
  obtain ⟨u, a, b, c⟩ := hc i h1.lt (key i h1) _ h2
  omega
/-- What is kept while places wait. -/
structure MI (l : List S44) (M : List Bool) (W : List Nat) (x : Option Nat) : Prop where
  len : M.length = l.length
  m0 : M.getD 0 false = true
  rc : ∀ v, v < l.length → M.getD v false = true → Rc l v
  ws : ∀ w ∈ W, w < l.length ∧ M.getD w false = true
  cl : ∀ v, v < l.length → M.getD v false = true → v ∈ W ∨ x = some v ∨ Cl l M v
theorem l1_ev (l : List S44) (lm : Lim l) (jo : JOk l) (h0 : 0 < l.length) (n : Nat) (hn : n ≤ 1000) (ih : ∀ (M : List Bool) (W : List Nat), 2 * fc M + W.length ≤ n → MI l M W none → ∃ r, MetS l r ∧ Ev (fun k => flow_Met.l0 k l M (W.map fun a : Nat => (a : Int))) r)
    (v : Nat) (hv : v < l.length) : ∀ (r j : Nat) (M : List Bool) (W : List Nat), j + r = (gs l v).length → 2 * fc M + W.length ≤ n → MI l M W (some v) → M.getD v false = true → (∀ t ∈ (gs l v).take j, ∃ u : Nat, t = (u : Int) ∧ u < l.length ∧ M.getD u false = true) →
    ∃ r, MetS l r ∧ Ev (fun k => flow_Met.l1 k l M (W.map fun a : Nat => (a : Int)) (gs l v) ((gs l v).length : Int) (j : Int)) r := by
  have hl := lm.1
  have hgl := gs_len lm jo hv
  intro r
  induction r with
  | zero =>
    intro j M W hj hm mi hvm ht
    obtain rfl : j = (gs l v).length := by omega
    rw [List.take_length] at ht
    obtain ⟨res, h1, K, g⟩ := ih M W hm ⟨mi.len, mi.m0, mi.rc, mi.ws, fun u hu hum => by
      rcases mi.cl u hu hum with h | h | h
      · exact Or.inl h
      · injection h with h; subst h; exact Or.inr (Or.inr ht)
      · exact Or.inr (Or.inr h)⟩
    simp only at g
    refine ⟨res, h1, K + 1, fun k hk => ?_⟩
    obtain ⟨k, rfl⟩ : ∃ m, k = m + 1 := ⟨k - 1, by omega⟩
    simp only [flow_Met.l1]
    rw [if_neg (by omega)]
    exact g k (by omega)
  | succ r ihr =>
    intro j M W hj hm mi hvm ht
    have hmem := rd_mem (gs l v) j (by omega)
    have hin := gs_in jo hv hmem
    have htk := take_rd (gs l v) j (by omega)
    by_cases hb : rd (gs l v) (j : Int) ≥ (l.length : Int)
    · have e : rd (gs l v) (j : Int) = (l.length : Int) := by omega
      refine ⟨[], Or.inl ⟨rfl, Or.inr (Or.inr ⟨v, mi.rc v hv hvm, e ▸ hmem⟩)⟩, 1, fun k hk => ?_⟩
      obtain ⟨k, rfl⟩ : ∃ m, k = m + 1 := ⟨k - 1, by omega⟩
      simp only [flow_Met.l1]
      rw [if_pos (by omega), if_pos (by omega), if_pos (by omega), if_pos hb]
    · obtain ⟨u, hu⟩ : ∃ u : Nat, rd (gs l v) (j : Int) = (u : Int) := ⟨(rd (gs l v) (j : Int)).toNat, by omega⟩
      have hul : u < l.length := by omega
      have hrd : rdOf false M (u : Int) = M.getD u false := by simp [rdOf]
      cases hM : M.getD u false with
      | true =>
        obtain ⟨res, h1, K, g⟩ := ihr (j + 1) M W (by omega) hm mi hvm (by
          intro t hmt
          rw [htk, List.mem_append, List.mem_singleton] at hmt
          rcases hmt with h | h
          · exact ht t h
          · exact ⟨u, by rw [h, hu], hul, hM⟩)
        simp only at g
        refine ⟨res, h1, K + 1, fun k hk => ?_⟩
        obtain ⟨k, rfl⟩ : ∃ m, k = m + 1 := ⟨k - 1, by omega⟩
        have := mi.len
        simp only [flow_Met.l1]
        rw [if_pos (by omega), if_pos (by omega), if_pos (by omega), if_neg hb, if_pos (by omega), if_pos (by omega), hu, hrd, hM, if_pos rfl, wnext j (by omega)]
        exact g k (by omega)
      | false =>
        have hml := mi.len
        have hfs := fc_set M u (by omega) hM
        have hru : Rc l u := .step (mi.rc v hv hvm) (hu ▸ hmem) hul
        have sg := fun w => set_get M u w (by omega)
        obtain ⟨res, h1, K, g⟩ := ihr (j + 1) (M.set u true) (W ++ [u]) (by omega) (by rw [List.length_append]; simp only [List.length_cons, List.length_nil]; omega) ⟨by rw [List.length_set]; exact hml, (sg 0).mpr (Or.inr mi.m0), fun w hw h => by
            rcases (sg w).mp h with rfl | h
            · exact hru
            · exact mi.rc w hw h, fun w hw => by
            rw [List.mem_append, List.mem_singleton] at hw
            rcases hw with hw | rfl
            · exact ⟨(mi.ws w hw).1, (sg w).mpr (Or.inr (mi.ws w hw).2)⟩
            · exact ⟨hul, (sg w).mpr (Or.inl rfl)⟩, fun w hw h => by
            rcases (sg w).mp h with rfl | h
            · exact Or.inl (by simp)
            · rcases mi.cl w hw h with h | h | h
              · exact Or.inl (by rw [List.mem_append]; exact Or.inl h)
              · exact Or.inr (Or.inl h)
              · exact Or.inr (Or.inr (h.set (by omega)))⟩ ((sg v).mpr (Or.inr hvm)) (by
          intro t hmt
          rw [htk, List.mem_append, List.mem_singleton] at hmt
          rcases hmt with h | h
          · obtain ⟨u2, a, b, c⟩ := ht t h
            exact ⟨u2, a, b, (sg u2).mpr (Or.inr c)⟩
          · exact ⟨u, by rw [h, hu], hul, (sg u).mpr (Or.inl rfl)⟩)
        simp only at g
        refine ⟨res, h1, K + 1, fun k hk => ?_⟩
        obtain ⟨k, rfl⟩ : ∃ m, k = m + 1 := ⟨k - 1, by omega⟩
        have hg := g k (by omega)
        rw [List.map_append, List.map_cons, List.map_nil] at hg
        simp only [flow_Met.l1]
        rw [if_pos (by omega), if_pos (by omega), if_pos (by omega), if_neg hb, if_pos (by omega), if_pos (by omega), hu, hrd, hM, if_neg (by simp), if_pos (by rw [List.length_map]; omega), wnext j (by omega), Int.toNat_natCast]
        exact hg
theorem l0_ev (l : List S44) (lm : Lim l) (jo : JOk l) (h0 : 0 < l.length) : ∀ n, n ≤ 1000 → ∀ (M : List Bool) (W : List Nat), 2 * fc M + W.length ≤ n → MI l M W none → ∃ r, MetS l r ∧ Ev (fun k => flow_Met.l0 k l M (W.map fun a : Nat => (a : Int))) r := by
  have hl := lm.1
  intro n
  induction n with
  | zero =>
    intro hn M W hm mi
    have : W = [] := List.eq_nil_of_length_eq_zero (by omega)
    subst this
    refine ⟨M, met_done jo h0 mi.len mi.m0 mi.rc (fun v hv h => ?_), 1, fun k hk => ?_⟩
    · rcases mi.cl v hv h with h | h | h
      · cases h
      · cases h
      · exact h
    · obtain ⟨k, rfl⟩ : ∃ m, k = m + 1 := ⟨k - 1, by omega⟩
      simp only [flow_Met.l0]
      rw [if_pos (by simp)]
  | succ n ih =>
    intro hn M W hm mi
    rcases List.eq_nil_or_concat W with rfl | ⟨W', v, rfl⟩
    · refine ⟨M, met_done jo h0 mi.len mi.m0 mi.rc (fun v hv h => ?_), 1, fun k hk => ?_⟩
      · rcases mi.cl v hv h with h | h | h
        · cases h
        · cases h
        · exact h
      · obtain ⟨k, rfl⟩ : ∃ m, k = m + 1 := ⟨k - 1, by omega⟩
        simp only [flow_Met.l0]
        rw [if_pos (by simp)]
    · rw [List.concat_eq_append] at hm mi ⊢
      have hv := mi.ws v (by simp)
      have hlen : (W' ++ [v]).length = W'.length + 1 := by simp
      obtain ⟨res, h1, K, g⟩ := l1_ev l lm jo h0 n (by omega) (ih (by omega)) v hv.1 (gs l v).length 0 M W' (by omega) (by omega) ⟨mi.len, mi.m0, mi.rc, fun w hw => mi.ws w (by rw [List.mem_append]; exact Or.inl hw), fun u hu h => by
        rcases mi.cl u hu h with h | h | h
        · rw [List.mem_append, List.mem_singleton] at h
          rcases h with h | rfl
          · exact Or.inl h
          · exact Or.inr (Or.inl rfl)
        · cases h
        · exact Or.inr (Or.inr h)⟩ hv.2 (by simp)
      obtain ⟨K2, g2⟩ := goes_ev l lm jo v hv.1
      simp only at g g2
      refine ⟨res, h1, max K K2 + 1, fun k hk => ?_⟩
      obtain ⟨k, rfl⟩ : ∃ m, k = m + 1 := ⟨k - 1, by omega⟩
      have hWm : ((W' ++ [v]).map fun a : Nat => (a : Int)).length = W'.length + 1 := by simp
      have e1 : wrap64 (((((W' ++ [v]).map fun a : Nat => (a : Int)).length : Nat) : Int) - 1) = (W'.length : Int) := by rw [hWm, w64_of (by omega) (by omega)]; omega
      have e2 : rd ((W' ++ [v]).map fun a : Nat => (a : Int)) (W'.length : Int) = (v : Int) := by simp [rd]
      have e3 : ((W' ++ [v]).map fun a : Nat => (a : Int)).take W'.length = W'.map fun a : Nat => (a : Int) := by simp
      simp only [flow_Met.l0]
      rw [if_neg (by omega), e1, if_pos (by omega), if_pos (by omega), if_pos (by omega), e2, g2 k (by omega), Int.toNat_natCast, e3]
      simp only [Option.bind_some]
      exact g k (by omega)
theorem met_ev (l : List S44) (lm : Lim l) : ∃ r, MetS l r ∧ Ev (fun k => flow_Met.f k l) r := by
  have hl := lm.1
  by_cases h0 : l.length = 0
  · refine ⟨[], Or.inl ⟨rfl, Or.inl h0⟩, 1, fun k hk => ?_⟩
    obtain ⟨k, rfl⟩ : ∃ m, k = m + 1 := ⟨k - 1, by omega⟩
    simp only [flow_Met.f]
    rw [if_pos (by omega)]
    rfl
  · obtain ⟨b, ⟨K1, g1⟩, hb⟩ := jumps_ev l lm
    simp only at g1
    cases b with
    | false =>
      refine ⟨[], Or.inl ⟨rfl, Or.inr (Or.inl fun h => by have := hb.mpr h; cases this)⟩, K1 + 1, fun k hk => ?_⟩
      obtain ⟨k, rfl⟩ : ∃ m, k = m + 1 := ⟨k - 1, by omega⟩
      simp only [flow_Met.f]
      rw [if_neg (by omega), g1 (k + 1) (by omega)]
      rfl
    | true =>
      have jo := hb.mp rfl
      have hrep := fc_rep l.length (by omega)
      have sg := fun w => set_get (List.replicate l.length false) 0 w (by simpa using Nat.pos_of_ne_zero h0)
      have hno : ∀ w, ¬ (List.replicate l.length false).getD w false = true := by
        intro w
        by_cases hw : w < l.length <;> simp [List.getD_eq_getElem?_getD, hw]
      obtain ⟨res, h1, K, g⟩ := l0_ev l lm jo (by omega) 1000 (Nat.le_refl _) ((List.replicate l.length false).set 0 true) [0] (by simp only [List.length_cons, List.length_nil]; omega) ⟨by simp, (sg 0).mpr (Or.inl rfl), fun v hv h => by
          rcases (sg v).mp h with rfl | h
          · exact .root (by omega)
          · exact absurd h (hno v), fun w hw => by
          rw [List.mem_singleton] at hw
          subst hw
          exact ⟨by omega, (sg 0).mpr (Or.inl rfl)⟩, fun v hv h => by
          rcases (sg v).mp h with rfl | h
          · exact Or.inl (by simp)
          · exact absurd h (hno v)⟩
      simp only at g
      refine ⟨res, h1, max K K1 + 1, fun k hk => ?_⟩
      obtain ⟨k, rfl⟩ : ∃ m, k = m + 1 := ⟨k - 1, by omega⟩
      simp only [flow_Met.f]
      rw [if_neg (by omega), g1 (k + 1) (by omega)]
      simp only [Option.bind_some, Bool.not_true, flow_Met.j0, Bool.false_eq_true, if_false]
      rw [if_pos (by omega), if_pos (by omega), Int.toNat_natCast, List.length_replicate, if_pos (by omega)]
      exact g k (by omega)
end Go.Proofs.Ytfiffhcpgojkhaa.PflFlowBlocks
