/- flow.Nodes: heads, where blocks end, where they go on; plain. No condition but that the code is short. -/
import Derived.Test.YtfiffhcpgojkhaaPflFlowBlocks
namespace Go.Proofs.Ytfiffhcpgojkhaa.PfnFlowBlocks
open Go.Proofs.Ytfiffhcpgojkhaa Go.Proofs.Ytfiffhcpgojkhaa.QFlowBlocks Go.Proofs.Ytfiffhcpgojkhaa.PdC Go.Proofs.Ytfiffhcpgojkhaa.PflFlowBlocks Go.RowKit Go.Proofs.YtfiffhcpgojkhaaW.PrintWords Go.Proofs.YtfiffhcpgojkhaaW.PrintLast Go.Proofs.YtfiffhcpgojkhaaW.PrintMore
set_option linter.unusedSimpArgs false
set_option linter.unusedVariables false
theorem sortc {L : List Int} (h : L.length ≤ 100000) : ((slices_Sort_int_int.f L).bind fun t => (slices_Compact_int_int.f t).bind fun u => some u) = some (sc L) := by
  unfold slices_Sort_int_int.f
  rw [if_pos (by omega)]
  simp only [Option.bind_some]
  unfold slices_Compact_int_int.f
  rw [if_pos (by rw [List.length_mergeSort]; omega)]
  rfl
/-- How many are less. -/
def pos (H : List Int) (x : Int) : Nat := (H.filter fun y => decide (y < x)).length
theorem pos_of {H : List Int} {x : Int} {p : Nat} (hp : p ≤ H.length) (h1 : ∀ a, a < p → H.getD a 0 < x) (h2 : ∀ a, p ≤ a → a < H.length → ¬ H.getD a 0 < x) : pos H x = p := by
  unfold pos
  conv => lhs; rw [← List.take_append_drop p H]
  rw [List.filter_append, List.length_append]
  have e1 : ((H.take p).filter fun y => decide (y < x)) = H.take p := by
    rw [List.filter_eq_self]
    intro y hy
    obtain ⟨a, ha, rfl⟩ := List.getElem_of_mem hy
    rw [List.length_take] at ha
    have := h1 a (by omega)
    rw [List.getElem_take]
    simpa [List.getD_eq_getElem?_getD, show a < H.length by omega] using this
  have e2 : ((H.drop p).filter fun y => decide (y < x)) = [] := by
    rw [List.filter_eq_nil_iff]
    intro y hy
    obtain ⟨a, ha, rfl⟩ := List.getElem_of_mem hy
    rw [List.length_drop] at ha
    have := h2 (p + a) (by omega) (by omega)
    rw [List.getElem_drop]
    simpa [List.getD_eq_getElem?_getD, show p + a < H.length by omega] using this
  rw [e1, e2, List.length_take]
  simp
  omega
theorem rise_get {H : List Int} (hr : H.Pairwise (· < ·)) {a b : Nat} (hab : a < b) (hb : b < H.length) : H.getD a 0 < H.getD b 0 := by
  have := List.pairwise_iff_getElem.mp hr a b (by omega) hb hab
  simpa [List.getD_eq_getElem?_getD, hb, show a < H.length by omega] using this
theorem bsl_ev (H : List Int) (hH : H.length ≤ 100000) (hr : H.Pairwise (· < ·)) (x : Int) : ∀ (c i j : Nat), j - i ≤ c → i ≤ j → j ≤ H.length → (∀ a, a < i → H.getD a 0 < x) → (∀ a, j ≤ a → a < H.length → ¬ H.getD a 0 < x) → Ev (fun k => slices_BinarySearch_int_int.l0 k H x (H.length : Int) (i : Int) (j : Int)) ((pos H x : Int), decide (x ∈ H)) := by
  intro c
  have done : ∀ i : Nat, i ≤ H.length → (∀ a, a < i → H.getD a 0 < x) → (∀ a, i ≤ a → a < H.length → ¬ H.getD a 0 < x) → Ev (fun k => slices_BinarySearch_int_int.l0 k H x (H.length : Int) (i : Int) (i : Int)) ((pos H x : Int), decide (x ∈ H)) := by
    intro i hi h1 h2
    have hp := pos_of hi h1 h2
    refine ⟨1, fun k hk => ?_⟩
    obtain ⟨k, rfl⟩ : ∃ m, k = m + 1 := ⟨k - 1, by omega⟩
    simp only [slices_BinarySearch_int_int.l0]
    rw [if_neg (by omega), hp]
    by_cases hl : i < H.length
    · rw [if_pos (by omega), if_pos (by omega), if_pos (by omega), rd_nat]
      by_cases e : H.getD i 0 = x
      · rw [if_pos e, decide_eq_true (e ▸ getD_mem H i hl)]
      · rw [if_neg e]
        have hno : x ∉ H := by
          intro hm
          obtain ⟨b, hb, rfl⟩ := List.getElem_of_mem hm
          have eb : H.getD b 0 = H[b] := by simp [List.getD_eq_getElem?_getD, hb]
          by_cases hbi : b < i
          · have := h1 b hbi; rw [eb] at this; omega
          · by_cases hbe : b = i
            · subst hbe; exact e eb
            · have h3 := rise_get hr (show i < b by omega) hb
              have h4 := h2 i (Nat.le_refl _) hl
              rw [eb] at h3
              exact h4 h3
        rw [decide_eq_false hno]
        simp [slices_isNaN_int.f]
    · rw [if_neg (by omega)]
      have hno : x ∉ H := by
        intro hm
        obtain ⟨b, hb, rfl⟩ := List.getElem_of_mem hm
        have eb : H.getD b 0 = H[b] := by simp [List.getD_eq_getElem?_getD, hb]
        have := h1 b (by omega)
        rw [eb] at this; omega
      rw [decide_eq_false hno]
  induction c with
  | zero =>
    intro i j hc hij hj h1 h2
    obtain rfl : i = j := by omega
    exact done i hj h1 h2
  | succ c ih =>
    intro i j hc hij hj h1 h2
    by_cases he : i = j
    · subst he; exact done i hj h1 h2
    · have em : wrap64 ((IntKind.u64.wrap (wrap64 ((i : Int) + (j : Int)))) / 2) = (((i + j) / 2 : Nat) : Int) := by
        rw [w64_of (x := (i : Int) + (j : Int)) (by omega) (by omega)]
        have : IntKind.u64.wrap ((i : Int) + (j : Int)) = (i : Int) + (j : Int) := by
          simp only [IntKind.wrap, IntKind.signed, IntKind.bits]
          simp
          omega
        rw [this, w64_of (by omega) (by omega)]
        omega
      have hm : (i + j) / 2 < j := by omega
      have hm2 : i ≤ (i + j) / 2 := by omega
      have hless : cmp_Less_int.f (rd H (((i + j) / 2 : Nat) : Int)) x = some (decide (H.getD ((i + j) / 2) 0 < x)) := by
        rw [rd_nat]
        simp [cmp_Less_int.f, cmp_isNaN_int.f]
      by_cases hl : H.getD ((i + j) / 2) 0 < x
      · obtain ⟨K, g⟩ := ih ((i + j) / 2 + 1) j (by omega) (by omega) hj (fun a ha => by
          by_cases e : a = (i + j) / 2
          · subst e; exact hl
          · exact Int.lt_trans (rise_get hr (show a < (i + j) / 2 by omega) (by omega)) hl) h2
        simp only at g
        refine ⟨K + 1, fun k hk => ?_⟩
        obtain ⟨k, rfl⟩ : ∃ m, k = m + 1 := ⟨k - 1, by omega⟩
        simp only [slices_BinarySearch_int_int.l0]
        rw [if_pos (by omega), em, if_pos (by omega), if_pos (by omega), hless]
        simp only [Option.bind_some]
        rw [if_pos (by simpa using hl), wnext _ (by omega)]
        exact g k (by omega)
      · obtain ⟨K, g⟩ := ih i ((i + j) / 2) (by omega) (by omega) (by omega) h1 (fun a ha hal h3 => by
          by_cases e : a = (i + j) / 2
          · subst e; exact hl h3
          · exact hl (Int.lt_trans (rise_get hr (show (i + j) / 2 < a by omega) hal) h3))
        simp only at g
        refine ⟨K + 1, fun k hk => ?_⟩
        obtain ⟨k, rfl⟩ : ∃ m, k = m + 1 := ⟨k - 1, by omega⟩
        simp only [slices_BinarySearch_int_int.l0]
        rw [if_pos (by omega), em, if_pos (by omega), if_pos (by omega), hless]
        simp only [Option.bind_some]
        rw [if_neg (by simpa using hl)]
        exact g k (by omega)
theorem bs_ev (H : List Int) (hH : H.length ≤ 100000) (hr : H.Pairwise (· < ·)) (x : Int) : Ev (fun k => slices_BinarySearch_int_int.f k H x) ((pos H x : Int), decide (x ∈ H)) := by
  obtain ⟨K, g⟩ := bsl_ev H hH hr x H.length 0 H.length (by omega) (by omega) (Nat.le_refl _) (fun a h => by omega) (fun a h1 h2 => by omega)
  exact ⟨K, fun k hk => by simp only [slices_BinarySearch_int_int.f]; exact g k hk⟩
/-- An operation that ends its block. -/
def fa (op : Int) : Bool := if op = 30 then true else if op = 31 then true else if op = 32 then true else op == 34
theorem far_f (op : Int) : flow_far.f op = some (fa op) := by unfold flow_far.f fa; (repeat' split) <;> rfl
theorem gs_near {l : List S44} {i : Nat} (h : fa (ins l i).f0 = false) : gs l i = [(i : Int) + 1] := by
  unfold fa at h
  unfold gs
  split at h
  · cases h
  split at h
  · cases h
  split at h
  · cases h
  rename_i a b c
  rw [if_neg (by simpa using h), if_neg a, if_neg b, if_neg c]
/-- All places to which one goes on from where a block ends. -/
def ldr (l : List S44) (M : List Bool) : Nat → List Int
 | 0 => [0]
 | n + 1 => ldr l M n ++ (if M.getD n false = true then (if fa (ins l n).f0 = true then gs l n else []) else [])
theorem ldr_mem (l : List S44) (M : List Bool) (x : Int) : ∀ n, x ∈ ldr l M n ↔ x = 0 ∨ ∃ p, p < n ∧ M.getD p false = true ∧ fa (ins l p).f0 = true ∧ x ∈ gs l p := by
  intro n
  induction n with
  | zero => simp [ldr]
  | succ n ih =>
    simp only [ldr]
    rw [List.mem_append, ih]
    constructor
    · rintro ((h | ⟨p, h1, h2⟩) | h)
      · exact Or.inl h
      · exact Or.inr ⟨p, by omega, h2⟩
      · split at h
        · rename_i c1
          split at h
          · rename_i c2
            exact Or.inr ⟨n, by omega, c1, c2, h⟩
          · cases h
        · cases h
    · rintro (h | ⟨p, h1, h2, h3, h4⟩)
      · exact Or.inl (Or.inl h)
      · by_cases e : p = n
        · subst e; rw [if_pos h2, if_pos h3]; exact Or.inr h4
        · exact Or.inl (Or.inr ⟨p, by omega, h2, h3, h4⟩)
theorem ldr_len {l : List S44} (lm : Lim l) (jo : JOk l) (M : List Bool) : ∀ n, n ≤ l.length → (ldr l M n).length ≤ 1 + 152 * n := by
  intro n
  induction n with
  | zero => intro _; simp [ldr]
  | succ n ih =>
    intro hn
    have h1 := ih (by omega)
    have h2 := gs_len lm jo (i := n) (by omega)
    simp only [ldr]
    rw [List.length_append]
    split
    · split
      · omega
      · simp; omega
    · simp; omega
/-- What is known: the code is right, and so are the places that are met. -/
structure Fk (l : List S44) (M : List Bool) : Prop where
  lm : Lim l
  len : M.length = l.length
  h0 : 0 < l.length
  jo : JOk l
  nb : ¬ Bad l
  rc : ∀ v, v < l.length → (M.getD v false = true ↔ Rc l v)
def hd (l : List S44) (M : List Bool) : List Int := sc (ldr l M l.length)
theorem hd_mem {l : List S44} {M : List Bool} (h : Fk l M) (x : Int) : x ∈ hd l M ↔ x = 0 ∨ ∃ p, Rc l p ∧ fa (ins l p).f0 = true ∧ x ∈ gs l p := by
  unfold hd
  rw [sc_mem, ldr_mem]
  constructor
  · rintro (e | ⟨p, h1, h2, h3, h4⟩)
    · exact Or.inl e
    · exact Or.inr ⟨p, (h.rc p h1).mp h2, h3, h4⟩
  · rintro (e | ⟨p, h2, h3, h4⟩)
    · exact Or.inl e
    · exact Or.inr ⟨p, h2.lt, (h.rc p h2.lt).mpr h2, h3, h4⟩
theorem go_on {l : List S44} {M : List Bool} (h : Fk l M) {p : Nat} (hp : Rc l p) {x : Int} (hx : x ∈ gs l p) : ∃ u : Nat, x = (u : Int) ∧ Rc l u := by
  have h1 := gs_in h.jo hp.lt hx
  obtain ⟨u, rfl⟩ : ∃ u : Nat, x = (u : Int) := ⟨x.toNat, by omega⟩
  refine ⟨u, rfl, .step hp hx ?_⟩
  by_cases e : u = l.length
  · exact absurd ⟨p, hp, e ▸ hx⟩ h.nb
  · omega
theorem hd_R {l : List S44} {M : List Bool} (h : Fk l M) {x : Int} (hx : x ∈ hd l M) : ∃ u : Nat, x = (u : Int) ∧ Rc l u := by
  rcases (hd_mem h x).mp hx with rfl | ⟨p, h1, _, h2⟩
  · exact ⟨0, rfl, .root h.h0⟩
  · exact go_on h h1 h2
theorem hd_len {l : List S44} {M : List Bool} (h : Fk l M) : (hd l M).length ≤ 30000 := by
  have h1 := ldr_len h.lm h.jo M l.length (Nat.le_refl _)
  have h2 := sc_len (ldr l M l.length)
  have := h.lm.1
  unfold hd
  omega
theorem leaders_ev {l : List S44} {M : List Bool} (h : Fk l M) : Ev (fun k => flow_leaders.f k l M) (hd l M) := by
  have hl := h.lm.1
  have hML := h.len
  have key : ∀ r i : Nat, i + r = l.length → Ev (fun k => flow_leaders.l0 k l M (ldr l M i) l (l.length : Int) (i : Int)) (hd l M) := by
    intro r
    induction r with
    | zero =>
      intro i hi
      obtain rfl : i = l.length := by omega
      refine ⟨1, fun k hk => ?_⟩
      obtain ⟨k, rfl⟩ : ∃ m, k = m + 1 := ⟨k - 1, by omega⟩
      simp only [flow_leaders.l0]
      rw [if_neg (by omega)]
      have := ldr_len h.lm h.jo M l.length (Nat.le_refl _)
      exact sortc (by omega)
    | succ r ih =>
      intro i hi
      obtain ⟨K, g⟩ := ih (i + 1) (by omega)
      obtain ⟨K2, g2⟩ := goes_ev l h.lm h.jo i (by omega)
      simp only at g g2
      refine ⟨max K K2 + 1, fun k hk => ?_⟩
      obtain ⟨k, rfl⟩ : ∃ m, k = m + 1 := ⟨k - 1, by omega⟩
      have hg := g k (by omega)
      have h1 := ldr_len h.lm h.jo M i (by omega)
      have h2 := gs_len h.lm h.jo (i := i) (by omega)
      have hrd : rdOf false M (i : Int) = M.getD i false := by simp [rdOf]
      simp only [ldr] at hg
      simp only [flow_leaders.l0]
      rw [if_pos (by omega), if_pos (by omega), if_pos (by omega), if_pos (by omega), hrd, wnext i (by omega)]
      by_cases c1 : M.getD i false = true
      · rw [if_pos c1, far_f]
        rw [if_pos c1] at hg
        simp only [Option.bind_some]
        by_cases c2 : fa (ins l i).f0 = true
        · rw [if_pos c2, g2 k (by omega)]
          rw [if_pos c2] at hg
          simp only [Option.bind_some]
          rw [if_pos (by omega)]
          exact hg
        · rw [if_neg c2]
          rw [if_neg c2, List.append_nil] at hg
          exact hg
      · rw [if_neg c1]
        rw [if_neg c1, List.append_nil] at hg
        exact hg
  obtain ⟨K, g⟩ := key l.length 0 (by omega)
  exact ⟨K, fun k hk => by simp only [flow_leaders.f]; exact g k hk⟩
/-- Where a block ends, from a place on. -/
def toF (l : List S44) (H : List Int) : Nat → Nat → Nat
 | 0, t => t
 | n + 1, t => if fa (ins l (t - 1)).f0 = true ∨ (t : Int) ∈ H then t else toF l H n (t + 1)
theorem to_spec {l : List S44} {M : List Bool} (h : Fk l M) : ∀ (n t : Nat), 1 ≤ t → l.length + 1 ≤ t + n → Rc l (t - 1) → t ≤ toF l (hd l M) n t ∧ Rc l (toF l (hd l M) n t - 1) ∧ (fa (ins l (toF l (hd l M) n t - 1)).f0 = true ∨ (toF l (hd l M) n t : Int) ∈ hd l M) ∧ ∀ s, t ≤ s → s < toF l (hd l M) n t → fa (ins l (s - 1)).f0 = false ∧ (s : Int) ∉ hd l M ∧ Rc l s := by
  intro n
  induction n with
  | zero => intro t h1 h2 h3; have := h3.lt; omega
  | succ n ih =>
    intro t h1 h2 h3
    simp only [toF]
    by_cases c : fa (ins l (t - 1)).f0 = true ∨ (t : Int) ∈ hd l M
    · rw [if_pos c]
      exact ⟨Nat.le_refl _, h3, c, fun s h4 h5 => by omega⟩
    · rw [if_neg c]
      have c1 : fa (ins l (t - 1)).f0 = false := by
        cases e : fa (ins l (t - 1)).f0 with
        | true => exact absurd (Or.inl e) c
        | false => rfl
      have c2 : (t : Int) ∉ hd l M := fun e => c (Or.inr e)
      obtain ⟨u, hu, hur⟩ := go_on h h3 (x := (t : Int)) (by rw [gs_near c1, List.mem_singleton]; omega)
      obtain rfl : t = u := by omega
      obtain ⟨a1, a2, a3, a4⟩ := ih (t + 1) (by omega) (by omega) (by simpa using hur)
      refine ⟨by omega, a2, a3, fun s h4 h5 => ?_⟩
      by_cases e : s = t
      · subst e; exact ⟨c1, c2, hur⟩
      · exact a4 s (by omega) h5
def toN (l : List S44) (H : List Int) (f : Nat) : Nat := toF l H (l.length + 1) (f + 1)
def node (l : List S44) (H : List Int) (f : Int) : S39 := ⟨f, (toN l H f.toNat : Int), (gs l (toN l H f.toNat - 1)).map fun x => (pos H x : Int)⟩
theorem walk_ev {l : List S44} {M : List Bool} (h : Fk l M) (out : List S39) (f c : Int) (n1 : Int) (R : List S39) : ∀ (n t : Nat), 1 ≤ t → l.length + 1 ≤ t + n → Rc l (t - 1) → Ev (fun k => flow_Nodes.j2 k l (hd l M) out f (toF l (hd l M) n t : Int) (hd l M) n1 c) R → Ev (fun k => flow_Nodes.l1 k l (hd l M) out f (t : Int) (hd l M) n1 c) R := by
  have hl := h.lm.1
  have hHl := hd_len h
  intro n
  induction n with
  | zero => intro t h1 h2 h3; have := h3.lt; omega
  | succ n ih =>
    intro t h1 h2 h3 hj
    have hlt := h3.lt
    have e1 : wrap64 ((t : Int) - 1) = ((t - 1 : Nat) : Int) := by rw [w64_of (by omega) (by omega)]; omega
    simp only [toF] at hj
    obtain ⟨K2, g2⟩ := bs_ev (hd l M) (by omega) (sc_rise _) (t : Int)
    simp only at g2
    by_cases c1 : fa (ins l (t - 1)).f0 = true
    · rw [if_pos (Or.inl c1)] at hj
      obtain ⟨K, g⟩ := hj
      simp only at g
      refine ⟨K + 1, fun k hk => ?_⟩
      obtain ⟨k, rfl⟩ : ∃ m, k = m + 1 := ⟨k - 1, by omega⟩
      simp only [flow_Nodes.l1]
      rw [e1, if_pos (by omega), if_pos (by omega), far_f]
      simp only [Option.bind_some]
      rw [if_pos c1]
      exact g k (by omega)
    · by_cases c2 : (t : Int) ∈ hd l M
      · rw [if_pos (Or.inr c2)] at hj
        obtain ⟨K, g⟩ := hj
        simp only at g
        refine ⟨max K K2 + 1, fun k hk => ?_⟩
        obtain ⟨k, rfl⟩ : ∃ m, k = m + 1 := ⟨k - 1, by omega⟩
        simp only [flow_Nodes.l1]
        rw [e1, if_pos (by omega), if_pos (by omega), far_f]
        simp only [Option.bind_some]
        rw [if_neg c1, g2 k (by omega)]
        simp only [Option.bind_some]
        rw [if_pos (by simpa using c2)]
        exact g k (by omega)
      · rw [if_neg (fun h => h.elim c1 c2)] at hj
        have c1' : fa (ins l (t - 1)).f0 = false := by simpa using c1
        obtain ⟨u, hu, hur⟩ := go_on h h3 (x := (t : Int)) (by rw [gs_near c1', List.mem_singleton]; omega)
        obtain rfl : t = u := by omega
        obtain ⟨K, g⟩ := ih (t + 1) (by omega) (by omega) (by simpa using hur) hj
        simp only at g
        refine ⟨max K K2 + 1, fun k hk => ?_⟩
        obtain ⟨k, rfl⟩ : ∃ m, k = m + 1 := ⟨k - 1, by omega⟩
        simp only [flow_Nodes.l1]
        rw [e1, if_pos (by omega), if_pos (by omega), far_f]
        simp only [Option.bind_some]
        rw [if_neg c1, g2 k (by omega)]
        simp only [Option.bind_some]
        rw [if_neg (by simpa using c2), wnext t (by omega)]
        exact g k (by omega)
theorem next_ev {l : List S44} {M : List Bool} (h : Fk l M) (out : List S39) (ho : out.length ≤ 30000) (f te : Int) (n1 : Int) (c : Nat) (hc : c ≤ 30000) (G : List Int) (hG : G.length ≤ 152) (R : List S39) (hR : Ev (fun k => flow_Nodes.l0 k l (hd l M) (out ++ [⟨f, te, G.map fun x => (pos (hd l M) x : Int)⟩]) (hd l M) n1 ((c + 1 : Nat) : Int)) R) :
    ∀ r j : Nat, j + r = G.length → Ev (fun k => flow_Nodes.l2 k l (hd l M) out (hd l M) n1 (c : Int) G (G.length : Int) (j : Int) f te ((G.take j).map fun x => (pos (hd l M) x : Int))) R := by
  have hHl := hd_len h
  intro r
  induction r with
  | zero =>
    intro j hj
    obtain rfl : j = G.length := by omega
    obtain ⟨K, g⟩ := hR
    simp only at g
    refine ⟨K + 1, fun k hk => ?_⟩
    obtain ⟨k, rfl⟩ : ∃ m, k = m + 1 := ⟨k - 1, by omega⟩
    simp only [flow_Nodes.l2]
    rw [if_neg (by omega), if_pos (by omega), List.take_length, wnext c (by omega)]
    exact g k (by omega)
  | succ r ih =>
    intro j hj
    obtain ⟨K, g⟩ := ih (j + 1) (by omega)
    obtain ⟨K2, g2⟩ := bs_ev (hd l M) (by omega) (sc_rise _) (rd G (j : Int))
    simp only at g g2
    refine ⟨max K K2 + 1, fun k hk => ?_⟩
    obtain ⟨k, rfl⟩ : ∃ m, k = m + 1 := ⟨k - 1, by omega⟩
    have hg := g k (by omega)
    rw [take_rd G j (by omega), List.map_append, List.map_cons, List.map_nil] at hg
    simp only [flow_Nodes.l2]
    rw [if_pos (by omega), if_pos (by omega), if_pos (by omega), g2 k (by omega)]
    simp only [Option.bind_some]
    rw [if_pos (by rw [List.length_map, List.length_take]; omega), wnext j (by omega)]
    exact hg
def nodesL (l : List S44) (H : List Int) : List S39 := H.map (node l H)
theorem heads_ev {l : List S44} {M : List Bool} (h : Fk l M) : ∀ r c : Nat, c + r = (hd l M).length → Ev (fun k => flow_Nodes.l0 k l (hd l M) (((hd l M).take c).map (node l (hd l M))) (hd l M) ((hd l M).length : Int) (c : Int)) (nodesL l (hd l M)) := by
  have hl := h.lm.1
  have hHl := hd_len h
  intro r
  induction r with
  | zero =>
    intro c hc
    obtain rfl : c = (hd l M).length := by omega
    refine ⟨1, fun k hk => ?_⟩
    obtain ⟨k, rfl⟩ : ∃ m, k = m + 1 := ⟨k - 1, by omega⟩
    simp only [flow_Nodes.l0]
    rw [if_neg (by omega), List.take_length]
    rfl
  | succ r ih =>
    intro c hc
    have hR := ih (c + 1) (by omega)
    obtain ⟨u, hu, hur⟩ := hd_R h (rd_mem (hd l M) c (by omega))
    have hult := hur.lt
    obtain ⟨b1, b2, b3, b4⟩ := to_spec h (l.length + 1) (u + 1) (by omega) (by omega) (by simpa using hur)
    rw [take_rd (hd l M) c (by omega), List.map_append, List.map_cons, List.map_nil, hu] at hR
    have e0 : node l (hd l M) (u : Int) = ⟨(u : Int), (toN l (hd l M) u : Int), (gs l (toN l (hd l M) u - 1)).map fun x => (pos (hd l M) x : Int)⟩ := by simp [node]
    rw [e0] at hR
    have hto : toN l (hd l M) u - 1 < l.length := b2.lt
    have htp : u + 1 ≤ toN l (hd l M) u := b1
    obtain ⟨K1, g1⟩ := next_ev h (((hd l M).take c).map (node l (hd l M))) (by rw [List.length_map, List.length_take]; omega) (u : Int) (toN l (hd l M) u : Int) ((hd l M).length : Int) c (by omega) (gs l (toN l (hd l M) u - 1)) (gs_len h.lm h.jo hto) _ hR _ 0 (Nat.zero_add _)
    obtain ⟨K2, g2⟩ := goes_ev l h.lm h.jo (toN l (hd l M) u - 1) hto
    simp only [List.take_zero, List.map_nil] at g1 g2
    have hj2 : Ev (fun k => flow_Nodes.j2 k l (hd l M) (((hd l M).take c).map (node l (hd l M))) (u : Int) (toF l (hd l M) (l.length + 1) (u + 1) : Int) (hd l M) ((hd l M).length : Int) (c : Int)) (nodesL l (hd l M)) := by
      refine ⟨max K1 K2 + 1, fun k hk => ?_⟩
      obtain ⟨k, rfl⟩ : ∃ m, k = m + 1 := ⟨k - 1, by omega⟩
      have e1 : wrap64 ((toN l (hd l M) u : Int) - 1) = ((toN l (hd l M) u - 1 : Nat) : Int) := by rw [w64_of (by omega) (by omega)]; omega
      show flow_Nodes.j2 (k + 1) l (hd l M) (((hd l M).take c).map (node l (hd l M))) (u : Int) (toN l (hd l M) u : Int) (hd l M) ((hd l M).length : Int) (c : Int) = _
      simp only [flow_Nodes.j2]
      rw [e1, g2 k (by omega)]
      simp only [Option.bind_some]
      exact g1 k (by omega)
    obtain ⟨K, g⟩ := walk_ev h _ (u : Int) (c : Int) _ _ (l.length + 1) (u + 1) (by omega) (by omega) (by simpa using hur) hj2
    simp only at g
    refine ⟨K + 1, fun k hk => ?_⟩
    obtain ⟨k, rfl⟩ : ∃ m, k = m + 1 := ⟨k - 1, by omega⟩
    simp only [flow_Nodes.l0]
    rw [if_pos (by omega), if_pos (by omega), if_pos (by omega), hu, wnext u (by omega)]
    exact g k (by omega)
theorem nodes_ev {l : List S44} {M : List Bool} (h : Fk l M) (hM : Ev (fun k => flow_Met.f k l) M) : Ev (fun k => flow_Nodes.f k l) (nodesL l (hd l M)) := by
  obtain ⟨K1, g1⟩ := hM
  obtain ⟨K2, g2⟩ := leaders_ev h
  obtain ⟨K3, g3⟩ := heads_ev h (hd l M).length 0 (by omega)
  simp only [List.take_zero, List.map_nil] at g1 g2 g3
  refine ⟨max K1 (max K2 K3), fun k hk => ?_⟩
  have := h.h0
  have := h.len
  simp only [flow_Nodes.f]
  rw [g1 k (by omega)]
  simp only [Option.bind_some]
  rw [if_neg (by omega), g2 k (by omega)]
  simp only [Option.bind_some]
  exact g3 k (by omega)
theorem nodes_nil {l : List S44} (hM : Ev (fun k => flow_Met.f k l) []) : Ev (fun k => flow_Nodes.f k l) [] := by
  obtain ⟨K1, g1⟩ := hM
  simp only at g1
  refine ⟨K1, fun k hk => ?_⟩
  simp only [flow_Nodes.f]
  rw [g1 k hk]
  rfl
/-- Met, either none or as known. -/
theorem met_or (l : List S44) (lm : Lim l) : ∃ M, Ev (fun k => flow_Met.f k l) M ∧ MetS l M ∧ (M = [] ∨ Fk l M) := by
  obtain ⟨M, hs, hE⟩ := met_ev l lm
  refine ⟨M, hE, hs, ?_⟩
  rcases hs with ⟨rfl, _⟩ | ⟨a, b, c, d, e⟩
  · exact Or.inl rfl
  · exact Or.inr ⟨lm, a, b, c, d, e⟩
def l3 : List S44 := [⟨31, 2, 0⟩, ⟨0, 0, 0⟩, ⟨34, 0, 0⟩]
theorem awake_ev : Ev (fun k => ladderbacklaw30_awake.f k) true := by
  have lm : Lim l3 := by
    refine ⟨by decide, fun i hi => ?_⟩
    match i, hi with
    | 0, _ => exact ⟨by decide, by decide⟩
    | 1, _ => exact ⟨by decide, by decide⟩
    | 2, _ => exact ⟨by decide, by decide⟩
  obtain ⟨M, hE, _, hM⟩ := met_or l3 lm
  have h0 : flow_Met.f 30 l3 = some [true, true, true] := by decide +kernel
  obtain ⟨K0, g0⟩ := Ev.of (g := fun k => flow_Met.f k l3) (fun k => flow_Met.mono _ k) h0
  have hE' := hE
  obtain ⟨K1, g1⟩ := hE'
  simp only at g0 g1
  have eM : M = [true, true, true] := Option.some.inj ((g1 (max K0 K1) (by omega)).symm.trans (g0 (max K0 K1) (by omega)))
  subst eM
  have fk : Fk l3 [true, true, true] := hM.resolve_left (by simp)
  obtain ⟨K, g⟩ := nodes_ev fk hE
  have eh : hd l3 [true, true, true] = [0, 1, 2] := by
    unfold hd
    have e1 : ldr l3 [true, true, true] l3.length = [0, 1, 2] := by decide +kernel
    rw [e1]
    exact rise_eq _ _ (sc_rise _) (by simp) fun y => by rw [sc_mem]
  rw [eh] at g
  have en : nodesL l3 [0, 1, 2] = [⟨0, 1, [1, 2]⟩, ⟨1, 2, [2]⟩, ⟨2, 3, []⟩] := by rfl
  rw [en] at g
  simp only at g
  refine ⟨K, fun k hk => ?_⟩
  simp only [ladderbacklaw30_awake.f]
  have hg : flow_Nodes.f k ([(⟨31, 2, 0⟩ : S44), (⟨0, 0, 0⟩ : S44), (⟨34, 0, 0⟩ : S44)] : List S44) = _ := g k hk
  rw [hg]
  rfl
end Go.Proofs.Ytfiffhcpgojkhaa.PfnFlowBlocks
