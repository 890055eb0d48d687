/- CallsCircle: an order is there just if nobody comes to itself by calls; plain. No condition. -/
import Derived.Test.YtfiffhcpgojkhaaPcoCallsCircle
namespace Go.Proofs.Ytfiffhcpgojkhaa.Pure
open Go.Proofs.Ytfiffhcpgojkhaa Go.Proofs.Ytfiffhcpgojkhaa.QCallsCircle Go.Proofs.Ytfiffhcpgojkhaa.PdC Go.Proofs.Ytfiffhcpgojkhaa.PcoCallsCircle Go.RowKit Go.Proofs.YtfiffhcpgojkhaaW.PrintWords Go.Proofs.YtfiffhcpgojkhaaW.PrintLast Go.Proofs.YtfiffhcpgojkhaaW.PrintMore
set_option linter.unusedSimpArgs false
set_option linter.unusedVariables false
/-! Reaching. -/
def P (l : List S69) : Nat → Nat → Nat → Prop
 | 0, u, c => edge l u c = true
 | k + 1, u, c => P l k u c ∨ (P l k u k ∧ P l k k c)
theorem P_via (l : List S69) : ∀ (k j u c : Nat), j < k → P l k u j → P l k j c → P l k u c := by
  intro k
  induction k with
  | zero => intro j u c hj; omega
  | succ k ih =>
    intro j u c hj h1 h2
    by_cases e : j = k
    · subst e
      have a : P l j u j := by rcases h1 with h | h; exact h; exact h.1
      have b : P l j j c := by rcases h2 with h | h; exact h; exact h.2
      exact .inr ⟨a, b⟩
    · have hj' : j < k := by omega
      rcases h1 with h1 | ⟨h1, h1'⟩
      · rcases h2 with h2 | ⟨h2, h2'⟩
        · exact .inl (ih j u c hj' h1 h2)
        · exact .inr ⟨ih j u k hj' h1 h2, h2'⟩
      · rcases h2 with h2 | ⟨h2, h2'⟩
        · exact .inr ⟨h1, ih j k c hj' h1' h2⟩
        · exact .inr ⟨h1, h2'⟩
theorem P_up (l : List S69) (u c : Nat) : ∀ k j : Nat, j ≤ k → P l j u c → P l k u c := by
  intro k
  induction k with
  | zero =>
    intro j hj h
    obtain rfl : j = 0 := by omega
    exact h
  | succ k ih =>
    intro j hj h
    by_cases e : j = k + 1
    · subst e; exact h
    · exact .inl (ih j (by omega) h)
/-! The matrix. -/
def at2 (M : List (List Bool)) (u c : Nat) : Bool := rdOf false (rd_L7 M (u : Int)) (c : Int)
theorem at2_set (M : List (List Bool)) (u : Nat) (R : List Bool) (hu : u < M.length) (v c : Nat) : at2 (M.set u R) v c = if v = u then rdOf false R (c : Int) else at2 M v c := by
  unfold at2 rd_L7
  rw [List.getD_eq_getElem?_getD, List.getD_eq_getElem?_getD, Int.toNat_natCast, List.getElem?_set]
  by_cases e : v = u
  · subst e; rw [if_pos rfl, if_pos rfl, if_pos hu]; rfl
  · rw [if_neg (fun h => e h.symm), if_neg e]
theorem row_set (M : List (List Bool)) (u : Nat) (R : List Bool) (hu : u < M.length) (v : Nat) : rd_L7 (M.set u R) (v : Int) = if v = u then R else rd_L7 M (v : Int) := by
  unfold rd_L7
  rw [List.getD_eq_getElem?_getD, List.getD_eq_getElem?_getD, Int.toNat_natCast, List.getElem?_set]
  by_cases e : v = u
  · subst e; rw [if_pos rfl, if_pos rfl, if_pos hu]; rfl
  · rw [if_neg (fun h => e h.symm), if_neg e]
theorem rd_set (R : List Bool) (c : Nat) (b : Bool) (hc : c < R.length) (d : Nat) : rdOf false (R.set c b) (d : Int) = if d = c then b else rdOf false R (d : Int) := by
  unfold rdOf
  rw [List.getD_eq_getElem?_getD, List.getD_eq_getElem?_getD, Int.toNat_natCast, List.getElem?_set]
  by_cases e : d = c
  · subst e; rw [if_pos rfl, if_pos rfl, if_pos hc]; rfl
  · rw [if_neg (fun h => e h.symm), if_neg e]
def put2 (M : List (List Bool)) (u c : Nat) (b : Bool) : List (List Bool) := M.set u ((rd_L7 M (u : Int)).set c b)
def Sq (n : Nat) (M : List (List Bool)) : Prop := M.length = n ∧ ∀ u : Nat, u < n → (rd_L7 M (u : Int)).length = n
theorem put2_at (n : Nat) (M : List (List Bool)) (hM : M.length = n) (u c : Nat) (hr : (rd_L7 M (u : Int)).length = n) (hu : u < n) (hc : c < n) (b : Bool) (v d : Nat) : at2 (put2 M u c b) v d = if v = u ∧ d = c then b else at2 M v d := by
  unfold put2
  rw [at2_set _ _ _ (by omega), rd_set _ _ _ (by omega)]
  by_cases e : v = u
  · subst e
    rw [if_pos rfl]
    by_cases e2 : d = c
    · rw [if_pos e2, if_pos ⟨rfl, e2⟩]
    · rw [if_neg e2, if_neg (fun h => e2 h.2)]; rfl
  · rw [if_neg e, if_neg (fun h => e h.1)]
theorem put2_sq (n : Nat) (M : List (List Bool)) (h : Sq n M) (u c : Nat) (hu : u < n) (b : Bool) : Sq n (put2 M u c b) := by
  have hM := h.1
  refine ⟨by unfold put2; rw [List.length_set]; exact h.1, fun v hv => ?_⟩
  unfold put2
  rw [row_set _ _ _ (by omega)]
  by_cases e : v = u
  · rw [if_pos e, List.length_set]; exact h.2 u hu
  · rw [if_neg e]; exact h.2 v hv
/-! Pigeons. -/
theorem pig {α : Type} [BEq α] [LawfulBEq α] : ∀ (A B : List α), A.Nodup → (∀ x ∈ A, x ∈ B) → A.length ≤ B.length := by
  intro A
  induction A with
  | nil => intro B _ _; simp
  | cons a A ih =>
    intro B hn h
    have ha := h a List.mem_cons_self
    have hn' := List.nodup_cons.mp hn
    have h1 := ih (B.erase a) hn'.2 (fun x hx => by
      have hne : x ≠ a := fun e => hn'.1 (e ▸ hx)
      exact (List.mem_erase_of_ne hne).mpr (h x (List.mem_cons_of_mem _ hx)))
    have h2 := List.length_erase_of_mem ha
    have h3 : 0 < B.length := List.length_pos_of_mem ha
    rw [List.length_cons]
    omega
/-- A row that the rounds made. -/
def Good (l : List S69) (out : List Int) : Prop := out.Nodup ∧ (∀ x ∈ out, 0 ≤ x ∧ x < (l.length : Int)) ∧ ∀ i u : Nat, i < out.length → rd out (i : Int) = (u : Int) → ∀ t : Nat, t < l.length → edge l u t = true → (t : Int) ∈ out.take i
theorem good_put (l : List S69) (out : List Int) (h : Good l out) (u : Nat) (hu : u < l.length) (hr : rdy l out u) : Good l (out ++ [(u : Int)]) := by
  refine ⟨?_, ?_, ?_⟩
  · rw [List.nodup_append]
    refine ⟨h.1, by simp, fun a ha b hb e => ?_⟩
    rw [List.mem_singleton.mp hb] at e
    exact hr.1 (e ▸ ha)
  · intro x hx
    rcases List.mem_append.mp hx with hx | hx
    · exact h.2.1 x hx
    · rw [List.mem_singleton.mp hx]; omega
  · intro i v hi hv t ht he
    by_cases e : i < out.length
    · have e1 : rd (out ++ [(u : Int)]) (i : Int) = rd out (i : Int) := by
        unfold rd
        rw [List.getD_eq_getElem?_getD, List.getD_eq_getElem?_getD, Int.toNat_natCast, List.getElem?_append_left e]
      rw [e1] at hv
      rw [List.take_append_of_le_length (by omega)]
      exact h.2.2 i v e hv t ht he
    · have e2 : i = out.length := by
        rw [List.length_append, List.length_singleton] at hi
        omega
      subst e2
      have e1 : rd (out ++ [(u : Int)]) (out.length : Int) = (u : Int) := by
        unfold rd
        rw [List.getD_eq_getElem?_getD, Int.toNat_natCast, List.getElem?_append_right (Nat.le_refl _)]
        simp
      rw [e1] at hv
      obtain rfl : u = v := by omega
      rw [List.take_left]
      exact hr.2 t ht he
def Stuck (l : List S69) : Prop := ∃ out, Good l out ∧ out.length < l.length ∧ ∀ u, u < l.length → ¬ rdy l out u
theorem ordS_spec (l : List S69) : ∀ (r : Nat) (out : List Int), out.length + r = l.length → Good l out → (∃ L, ordS l r out = (L, true) ∧ L.length = l.length ∧ Good l L) ∨ (ordS l r out = ([], false) ∧ Stuck l) := by
  intro r
  induction r with
  | zero => intro out ho h; exact .inl ⟨out, rfl, by omega, h⟩
  | succ r ih =>
    intro out ho h
    simp only [ordS]
    rcases pk_spec l out with ⟨e, hn⟩ | ⟨u, e, hu, hr⟩
    · rw [if_pos (by omega)]; exact .inr ⟨rfl, out, h, by omega, hn⟩
    · rw [if_neg (by omega), e]
      exact ih _ (by rw [List.length_append, List.length_singleton]; omega) (good_put l out h u hu hr)
theorem nats_of (l : List S69) (L : List Int) (h : Good l L) : (L.map Int.toNat).Nodup ∧ ∀ x ∈ L.map Int.toNat, x < l.length := by
  constructor
  · rw [List.nodup_iff_pairwise_ne, List.pairwise_map]
    have h1 := List.nodup_iff_pairwise_ne.mp h.1
    refine List.Pairwise.imp_of_mem ?_ h1
    intro a b ha hb hab e
    have := h.2.1 a ha
    have := h.2.1 b hb
    exact hab (by omega)
  · intro x hx
    obtain ⟨y, hy, rfl⟩ := List.mem_map.mp hx
    have := h.2.1 y hy
    omega
theorem all_in (l : List S69) (L : List Int) (h : Good l L) (hl : L.length = l.length) (u : Nat) (hu : u < l.length) : (u : Int) ∈ L := by
  refine Classical.byContradiction fun hn => ?_
  obtain ⟨h1, h2⟩ := nats_of l L h
  have := pig (u :: L.map Int.toNat) (List.range l.length) (List.nodup_cons.mpr ⟨fun hm => by
    obtain ⟨y, hy, e⟩ := List.mem_map.mp hm
    have := h.2.1 y hy
    exact hn (by rw [show (u : Int) = y by omega]; exact hy), h1⟩) (fun x hx => by
    rw [List.mem_range]
    rcases List.mem_cons.mp hx with rfl | hx
    · exact hu
    · exact h2 x hx)
  rw [List.length_cons, List.length_map, List.length_range] at this
  omega
theorem mem_take_rd (L : List Int) (i : Nat) (x : Int) (h : x ∈ L.take i) : ∃ j : Nat, j < i ∧ j < L.length ∧ rd L (j : Int) = x := by
  obtain ⟨j, hj, e⟩ := List.mem_iff_getElem.mp h
  rw [List.length_take] at hj
  refine ⟨j, by omega, by omega, ?_⟩
  rw [← e, List.getElem_take]
  unfold rd
  rw [List.getD_eq_getElem?_getD, Int.toNat_natCast, List.getElem?_eq_getElem (by omega)]
  rfl
theorem take_sub (L : List Int) (i j : Nat) (h : j ≤ i) (x : Int) (hx : x ∈ L.take j) : x ∈ L.take i := by
  rw [show j = min j i by omega, ← List.take_take] at hx
  exact List.mem_of_mem_take hx
theorem behind (l : List S69) (L : List Int) (h : Good l L) : ∀ (k : Nat), k ≤ l.length → ∀ (i u c : Nat), i < L.length → rd L (i : Int) = (u : Int) → c < l.length → P l k u c → (c : Int) ∈ L.take i := by
  intro k
  induction k with
  | zero => intro hk i u c hi hu hc hp; exact h.2.2 i u hi hu c hc hp
  | succ k ih =>
    intro hk i u c hi hu hc hp
    rcases hp with hp | ⟨h1, h2⟩
    · exact ih (by omega) i u c hi hu hc hp
    · have hm := ih (by omega) i u k hi hu (by omega) h1
      obtain ⟨j, hj, hj2, e⟩ := mem_take_rd L i _ hm
      exact take_sub L i j (by omega) _ (ih (by omega) j k c hj2 e hc h2)
theorem not_take (L : List Int) (h : L.Nodup) (i k : Nat) (hik : i ≤ k) (hk : k < L.length) : rd L (k : Int) ∉ L.take i := by
  intro hm
  obtain ⟨j, hj, hj2, e⟩ := mem_take_rd L i _ hm
  have e1 : ∀ m : Nat, ∀ hm : m < L.length, rd L (m : Int) = L[m] := fun m hm => by
    unfold rd
    rw [List.getD_eq_getElem?_getD, Int.toNat_natCast, List.getElem?_eq_getElem hm]
    rfl
  rw [e1 j hj2, e1 k hk] at e
  exact (List.pairwise_iff_getElem.mp (List.nodup_iff_pairwise_ne.mp h)) j k hj2 hk (by omega) e
theorem none_circle (l : List S69) (L : List Int) (h : Good l L) (hl : L.length = l.length) (u : Nat) (hu : u < l.length) : ¬ P l l.length u u := by
  intro hp
  obtain ⟨j, hj, hj2, e⟩ := mem_take_rd L L.length _ (by rw [List.take_length]; exact all_in l L h hl u hu)
  have := behind l L h l.length (Nat.le_refl _) j u u hj2 e hu hp
  rw [← e] at this
  exact not_take L h.1 j j (Nat.le_refl _) hj2 this
theorem circle (l : List S69) (h : Stuck l) : ∃ u, u < l.length ∧ P l l.length u u := by
  obtain ⟨out, hg, hlen, hno⟩ := h
  refine Classical.byContradiction fun hn => ?_
  have hn' : ∀ u, u < l.length → ¬ P l l.length u u := fun u hu hp => hn ⟨u, hu, hp⟩
  have nxt : ∀ u, u < l.length → (u : Int) ∉ out → ∃ t, t < l.length ∧ (t : Int) ∉ out ∧ P l l.length u t := by
    intro u hu ho
    refine Classical.byContradiction fun hc => ?_
    refine hno u hu ⟨ho, fun t ht he => ?_⟩
    refine Classical.byContradiction fun hto => ?_
    exact hc ⟨t, ht, hto, P_up l u t l.length 0 (by omega) he⟩
  obtain ⟨s, hs, hso⟩ : ∃ s, s < l.length ∧ (s : Int) ∉ out := by
    refine Classical.byContradiction fun hc => ?_
    have := pig ((List.range l.length).map fun t : Nat => (t : Int)) out (by
      rw [List.nodup_iff_pairwise_ne, List.pairwise_map]
      refine List.Pairwise.imp ?_ (List.nodup_iff_pairwise_ne.mp List.nodup_range)
      intro a b hab e
      exact hab (by omega)) (fun x hx => by
      obtain ⟨t, ht, rfl⟩ := List.mem_map.mp hx
      refine Classical.byContradiction fun hto => ?_
      exact hc ⟨t, List.mem_range.mp ht, hto⟩)
    rw [List.length_map, List.length_range] at this
    omega
  have chain : ∀ m : Nat, ∃ (A : List Nat) (h : Nat), A.length = m + 1 ∧ A.Nodup ∧ (∀ x ∈ A, x < l.length) ∧ h ∈ A ∧ (h : Int) ∉ out ∧ ∀ x ∈ A, x = h ∨ P l l.length x h := by
    intro m
    induction m with
    | zero => exact ⟨[s], s, rfl, by simp, fun x hx => by rw [List.mem_singleton.mp hx]; exact hs, by simp, hso, fun x hx => .inl (List.mem_singleton.mp hx)⟩
    | succ m ih =>
      obtain ⟨A, h, h1, h2, h3, h4, h5, h6⟩ := ih
      obtain ⟨t, ht, hto, hp⟩ := nxt h (h3 h h4) h5
      have hx : ∀ x ∈ A, P l l.length x t := by
        intro x hx
        rcases h6 x hx with rfl | hxh
        · exact hp
        · exact P_via l l.length h x t (h3 h h4) hxh hp
      refine ⟨t :: A, t, by rw [List.length_cons, h1], List.nodup_cons.mpr ⟨fun hm => hn' t ht (hx t hm), h2⟩, ?_, List.mem_cons_self, hto, ?_⟩
      · intro x hm
        rcases List.mem_cons.mp hm with rfl | hm
        · exact ht
        · exact h3 x hm
      · intro x hm
        rcases List.mem_cons.mp hm with rfl | hm
        · exact .inl rfl
        · exact .inr (hx x hm)
  obtain ⟨A, h, h1, h2, h3, _⟩ := chain l.length
  have := pig A (List.range l.length) h2 (fun x hx => List.mem_range.mpr (h3 x hx))
  rw [List.length_range] at this
  omega
/-! The walk's own loops. -/
def Inv0 (l : List S69) (u : Nat) (M : List (List Bool)) : Prop := M.length = l.length ∧ ∀ v : Nat, v < u → (rd_L7 M (v : Int)).length = l.length ∧ ∀ c : Nat, c < l.length → at2 M v c = edge l v c
theorem l1_ev (l : List S69) (ok : Ok l) (u : Nat) (hu : u < l.length) (go : ∀ M, Inv0 l (u + 1) M → Ev (fun k => ladderbacklaw21_CallsCircle.l0 k l (l.length : Int) M ((u + 1 : Nat) : Int)) true) : ∀ (r c : Nat) (M : List (List Bool)), c + r = l.length → Inv0 l u M → (rd_L7 M (u : Int)).length = l.length → (∀ d : Nat, d < c → at2 M u d = edge l u d) →
    Ev (fun k => ladderbacklaw21_CallsCircle.l1 k l (l.length : Int) M (u : Int) (c : Int)) true := by
  have hl := ok.1
  intro r
  induction r with
  | zero =>
    intro c M hc hI hr hd
    obtain rfl : c = l.length := by omega
    obtain ⟨K, g⟩ := go M ⟨hI.1, fun v hv => by
      by_cases e : v = u
      · subst e; exact ⟨hr, hd⟩
      · exact hI.2 v (by omega)⟩
    simp only at g
    refine ⟨K + 1, fun k hk => ?_⟩
    obtain ⟨k, rfl⟩ : ∃ m, k = m + 1 := ⟨k - 1, by omega⟩
    simp only [ladderbacklaw21_CallsCircle.l1]
    rw [if_neg (by omega), wnext u (by omega)]
    exact g k (by omega)
  | succ r ih =>
    intro c M hc hI hr hd
    have hM := hI.1
    obtain ⟨K1, g1⟩ := calls_ev l ok u c hu
    have hat := put2_at l.length M hM u c hr hu (by omega) (edge l u c)
    obtain ⟨K2, g2⟩ := ih (c + 1) (put2 M u c (edge l u c)) (by omega) ⟨by unfold put2; rw [List.length_set]; exact hM, fun v hv => by
        refine ⟨?_, fun d hd' => ?_⟩
        · unfold put2; rw [row_set _ _ _ (by omega), if_neg (by omega)]; exact (hI.2 v hv).1
        · rw [hat v d, if_neg (by omega)]; exact (hI.2 v hv).2 d hd'⟩
      (by unfold put2; rw [row_set _ _ _ (by omega), if_pos rfl, List.length_set]; exact hr)
      (fun d hd' => by
        rw [hat u d]
        by_cases e : d = c
        · subst e; rw [if_pos ⟨rfl, rfl⟩]
        · rw [if_neg (fun h => e h.2)]; exact hd d (by omega))
    simp only at g1 g2
    refine ⟨max K1 K2 + 1, fun k hk => ?_⟩
    obtain ⟨k, rfl⟩ : ∃ m, k = m + 1 := ⟨k - 1, by omega⟩
    simp only [ladderbacklaw21_CallsCircle.l1]
    rw [if_pos (by omega), if_pos (by omega), if_pos (by omega), g1 k (by omega)]
    simp only [Option.bind_some]
    rw [if_pos (by omega), if_pos (by omega), wnext c (by omega), Int.toNat_natCast, Int.toNat_natCast]
    exact g2 k (by omega)
theorem l0_ev (l : List S69) (ok : Ok l) (go : ∀ M, Inv0 l l.length M → Ev (fun k => ladderbacklaw21_CallsCircle.l2 k l (l.length : Int) M 0) true) : ∀ (r u : Nat) (M : List (List Bool)), u + r = l.length → Inv0 l u M →
    Ev (fun k => ladderbacklaw21_CallsCircle.l0 k l (l.length : Int) M (u : Int)) true := by
  have hl := ok.1
  intro r
  induction r with
  | zero =>
    intro u M hu hI
    obtain rfl : u = l.length := by omega
    obtain ⟨K, g⟩ := go M hI
    simp only at g
    refine ⟨K + 1, fun k hk => ?_⟩
    obtain ⟨k, rfl⟩ : ∃ m, k = m + 1 := ⟨k - 1, by omega⟩
    simp only [ladderbacklaw21_CallsCircle.l0]
    rw [if_neg (by omega)]
    exact g k (by omega)
  | succ r ih =>
    intro u M hu hI
    have hM := hI.1
    obtain ⟨K, g⟩ := l1_ev l ok u (by omega) (fun M' h' => ih (u + 1) M' (by omega) h') l.length 0 (M.set u (List.replicate l.length false)) (Nat.zero_add _) ⟨by rw [List.length_set]; exact hM, fun v hv => by
        refine ⟨?_, fun d hd' => ?_⟩
        · rw [row_set _ _ _ (by omega), if_neg (by omega)]; exact (hI.2 v hv).1
        · rw [at2_set _ _ _ (by omega), if_neg (by omega)]; exact (hI.2 v hv).2 d hd'⟩
      (by rw [row_set _ _ _ (by omega), if_pos rfl, List.length_replicate]) (fun d hd => by omega)
    simp only at g
    refine ⟨K + 1, fun k hk => ?_⟩
    obtain ⟨k, rfl⟩ : ∃ m, k = m + 1 := ⟨k - 1, by omega⟩
    simp only [ladderbacklaw21_CallsCircle.l0]
    rw [if_pos (by omega), if_pos (by omega), if_pos (by omega), if_pos (by omega), if_pos (by omega), Int.toNat_natCast, Int.toNat_natCast]
    exact g k (by omega)
def Mid (l : List S69) (k u c : Nat) (M : List (List Bool)) : Prop := Sq l.length M ∧ (∀ v d : Nat, v < l.length → d < l.length → at2 M v d = true → P l l.length v d) ∧ (∀ v d : Nat, v < l.length → d < l.length → P l k v d → at2 M v d = true) ∧
  ∀ v d : Nat, v < l.length → d < l.length → (v < u ∨ (v = u ∧ d < c)) → P l (k + 1) v d → at2 M v d = true
theorem mid_put (l : List S69) (k u c : Nat) (hk : k < l.length) (hu : u < l.length) (hc : c < l.length) (M : List (List Bool)) (h : Mid l k u c M) : Mid l k u (c + 1) (put2 M u c (at2 M u c || (at2 M u k && at2 M k c))) := by
  obtain ⟨h1, h2, h3, h4⟩ := h
  have hat := put2_at l.length M h1.1 u c (h1.2 u hu) hu hc (at2 M u c || (at2 M u k && at2 M k c))
  have up : ∀ v d : Nat, at2 M v d = true → at2 (put2 M u c (at2 M u c || (at2 M u k && at2 M k c))) v d = true := by
    intro v d hvd
    rw [hat v d]
    by_cases e : v = u ∧ d = c
    · rw [if_pos e]; obtain ⟨rfl, rfl⟩ := e; rw [hvd]; rfl
    · rw [if_neg e]; exact hvd
  refine ⟨put2_sq _ _ h1 _ _ hu _, fun v d hv hd hvd => ?_, fun v d hv hd hp => up v d (h3 v d hv hd hp), fun v d hv hd hor hp => ?_⟩
  · rw [hat v d] at hvd
    by_cases e : v = u ∧ d = c
    · rw [if_pos e] at hvd
      obtain ⟨rfl, rfl⟩ := e
      rcases Bool.or_eq_true_iff.mp hvd with hx | hx
      · exact h2 _ _ hv hd hx
      · have hx' := Bool.and_eq_true_iff.mp hx
        exact P_via l l.length k _ _ hk (h2 _ _ hv hk hx'.1) (h2 _ _ hk hd hx'.2)
    · rw [if_neg e] at hvd; exact h2 v d hv hd hvd
  · by_cases e : v = u ∧ d = c
    · rw [hat v d, if_pos e]
      obtain ⟨rfl, rfl⟩ := e
      rcases hp with hp | ⟨hp1, hp2⟩
      · rw [h3 _ _ hv hd hp]; rfl
      · rw [h3 _ _ hv hk hp1, h3 _ _ hk hd hp2]; simp
    · exact up v d (h4 v d hv hd (by omega) hp)
theorem l4_ev (l : List S69) (ok : Ok l) (k0 u : Nat) (hk0 : k0 < l.length) (hu : u < l.length) (go : ∀ M, Mid l k0 (u + 1) 0 M → Ev (fun k => ladderbacklaw21_CallsCircle.l3 k l (l.length : Int) M (k0 : Int) ((u + 1 : Nat) : Int)) true) : ∀ (r c : Nat) (M : List (List Bool)), c + r = l.length → Mid l k0 u c M →
    Ev (fun k => ladderbacklaw21_CallsCircle.l4 k l (l.length : Int) M (k0 : Int) (u : Int) (c : Int)) true := by
  have hl := ok.1
  intro r
  induction r with
  | zero =>
    intro c M hc h
    obtain rfl : c = l.length := by omega
    obtain ⟨K, g⟩ := go M ⟨h.1, h.2.1, h.2.2.1, fun v d hv hd hor hp => h.2.2.2 v d hv hd (by omega) hp⟩
    simp only at g
    refine ⟨K + 1, fun k hk => ?_⟩
    obtain ⟨k, rfl⟩ : ∃ m, k = m + 1 := ⟨k - 1, by omega⟩
    simp only [ladderbacklaw21_CallsCircle.l4]
    rw [if_neg (by omega), wnext u (by omega)]
    exact g k (by omega)
  | succ r ih =>
    intro c M hc h
    have hM := h.1.1
    have hru := h.1.2 u hu
    have hrk := h.1.2 k0 hk0
    obtain ⟨K, g⟩ := ih (c + 1) _ (by omega) (mid_put l k0 u c hk0 hu (by omega) M h)
    simp only at g
    refine ⟨K + 1, fun k hk => ?_⟩
    obtain ⟨k, rfl⟩ : ∃ m, k = m + 1 := ⟨k - 1, by omega⟩
    have hg := g k (by omega)
    have e1 : rdOf false (rd_L7 M (u : Int)) (c : Int) = at2 M u c := rfl
    have e2 : rdOf false (rd_L7 M (u : Int)) (k0 : Int) = at2 M u k0 := rfl
    have e3 : rdOf false (rd_L7 M (k0 : Int)) (c : Int) = at2 M k0 c := rfl
    simp only [ladderbacklaw21_CallsCircle.l4]
    rw [if_pos (by omega), if_pos (by omega), if_pos (by omega), if_pos (by omega), if_pos (by omega), e1, e2, e3, wnext c (by omega), Int.toNat_natCast, Int.toNat_natCast]
    by_cases c1 : at2 M u c = true
    · rw [if_pos c1]
      rw [c1, Bool.true_or] at hg
      exact hg
    · rw [if_neg c1, if_pos (by omega), if_pos (by omega)]
      have c1' : at2 M u c = false := by simpa using c1
      rw [c1', Bool.false_or] at hg
      by_cases c2 : at2 M u k0 = true
      · rw [if_pos c2, if_pos (by omega), if_pos (by omega)]
        rw [c2, Bool.true_and] at hg
        exact hg
      · rw [if_neg c2]
        have c2' : at2 M u k0 = false := by simpa using c2
        rw [c2', Bool.false_and] at hg
        exact hg
theorem l3_ev (l : List S69) (ok : Ok l) (k0 : Nat) (hk0 : k0 < l.length) (go : ∀ M, Mid l (k0 + 1) 0 0 M → Ev (fun k => ladderbacklaw21_CallsCircle.l2 k l (l.length : Int) M ((k0 + 1 : Nat) : Int)) true) : ∀ (r u : Nat) (M : List (List Bool)), u + r = l.length → Mid l k0 u 0 M →
    Ev (fun k => ladderbacklaw21_CallsCircle.l3 k l (l.length : Int) M (k0 : Int) (u : Int)) true := by
  have hl := ok.1
  intro r
  induction r with
  | zero =>
    intro u M hu h
    obtain rfl : u = l.length := by omega
    obtain ⟨K, g⟩ := go M ⟨h.1, h.2.1, fun v d hv hd hp => h.2.2.2 v d hv hd (by omega) hp, fun v d hv hd hor hp => by omega⟩
    simp only at g
    refine ⟨K + 1, fun k hk => ?_⟩
    obtain ⟨k, rfl⟩ : ∃ m, k = m + 1 := ⟨k - 1, by omega⟩
    simp only [ladderbacklaw21_CallsCircle.l3]
    rw [if_neg (by omega), wnext k0 (by omega)]
    exact g k (by omega)
  | succ r ih =>
    intro u M hu h
    obtain ⟨K, g⟩ := l4_ev l ok k0 u hk0 (by omega) (fun M' h' => ih (u + 1) M' (by omega) h') l.length 0 M (Nat.zero_add _) h
    simp only at g
    refine ⟨K + 1, fun k hk => ?_⟩
    obtain ⟨k, rfl⟩ : ∃ m, k = m + 1 := ⟨k - 1, by omega⟩
    simp only [ladderbacklaw21_CallsCircle.l3]
    rw [if_pos (by omega)]
    exact g k (by omega)
theorem l2_ev (l : List S69) (ok : Ok l) (go : ∀ M, Mid l l.length 0 0 M → Ev (fun k => ladderbacklaw21_CallsCircle.l5 k l (l.length : Int) M false 0) true) : ∀ (r k0 : Nat) (M : List (List Bool)), k0 + r = l.length → Mid l k0 0 0 M →
    Ev (fun k => ladderbacklaw21_CallsCircle.l2 k l (l.length : Int) M (k0 : Int)) true := by
  have hl := ok.1
  intro r
  induction r with
  | zero =>
    intro k0 M hk h
    obtain rfl : k0 = l.length := by omega
    obtain ⟨K, g⟩ := go M h
    simp only at g
    refine ⟨K + 1, fun k hk => ?_⟩
    obtain ⟨k, rfl⟩ : ∃ m, k = m + 1 := ⟨k - 1, by omega⟩
    simp only [ladderbacklaw21_CallsCircle.l2]
    rw [if_neg (by omega)]
    exact g k (by omega)
  | succ r ih =>
    intro k0 M hk h
    obtain ⟨K, g⟩ := l3_ev l ok k0 (by omega) (fun M' h' => ih (k0 + 1) M' (by omega) h') l.length 0 M (Nat.zero_add _) h
    simp only at g
    refine ⟨K + 1, fun k hk => ?_⟩
    obtain ⟨k, rfl⟩ : ∃ m, k = m + 1 := ⟨k - 1, by omega⟩
    simp only [ladderbacklaw21_CallsCircle.l2]
    rw [if_pos (by omega)]
    exact g k (by omega)
theorem l5_ev (l : List S69) (ok : Ok l) (M : List (List Bool)) (hM : Sq l.length M) : ∀ (r u : Nat) (b : Bool), u + r = l.length → Ev (fun k => ladderbacklaw21_CallsCircle.l5 k l (l.length : Int) M (b || (List.range' u r).any fun v => at2 M v v) (l.length : Int)) true →
    Ev (fun k => ladderbacklaw21_CallsCircle.l5 k l (l.length : Int) M b (u : Int)) true := by
  have hl := ok.1
  intro r
  induction r with
  | zero =>
    intro u b hu h
    obtain rfl : u = l.length := by omega
    simpa using h
  | succ r ih =>
    intro u b hu h
    rw [List.range'_succ, List.any_cons, ← Bool.or_assoc] at h
    obtain ⟨K, g⟩ := ih (u + 1) (b || at2 M u u) (by omega) h
    simp only at g
    have h1 := hM.1
    have h2 := hM.2 u (by omega)
    refine ⟨K + 1, fun k hk => ?_⟩
    obtain ⟨k, rfl⟩ : ∃ m, k = m + 1 := ⟨k - 1, by omega⟩
    have hg := g k (by omega)
    have e1 : rdOf false (rd_L7 M (u : Int)) (u : Int) = at2 M u u := rfl
    simp only [ladderbacklaw21_CallsCircle.l5]
    rw [if_pos (by omega), wnext u (by omega)]
    by_cases c : b = true
    · rw [if_pos c]
      rw [c, Bool.true_or] at hg
      exact hg
    · rw [if_neg c, if_pos (by omega), if_pos (by omega), if_pos (by omega), e1]
      have c' : b = false := by simpa using c
      rw [c', Bool.false_or] at hg
      exact hg
def Chk (n : Nat) (M : List (List Bool)) (L : List Int) : Prop := ∀ i j : Nat, i ≤ j → j < L.length → ∃ u c : Nat, rd L (i : Int) = (u : Int) ∧ rd L (j : Int) = (c : Int) ∧ u < n ∧ c < n ∧ at2 M u c = false
theorem l7_ev (n : Nat) (hn : n ≤ 21) (M : List (List Bool)) (hM : Sq n M) (L : List Int) (hL : L.length ≤ n) (hc : Chk n M L) (i : Nat) (hi : i < L.length) (go : Ev (fun k => ladderbacklaw21_CallsCircle.l6 k (n : Int) M L ((i + 1 : Nat) : Int)) true) : ∀ (r j : Nat), i ≤ j → j + r = L.length →
    Ev (fun k => ladderbacklaw21_CallsCircle.l7 k (n : Int) M L (i : Int) (j : Int)) true := by
  intro r
  induction r with
  | zero =>
    intro j hij hj
    obtain ⟨K, g⟩ := go
    simp only at g
    refine ⟨K + 1, fun k hk => ?_⟩
    obtain ⟨k, rfl⟩ : ∃ m, k = m + 1 := ⟨k - 1, by omega⟩
    simp only [ladderbacklaw21_CallsCircle.l7]
    rw [if_neg (by omega), wnext i (by omega)]
    exact g k (by omega)
  | succ r ih =>
    intro j hij hj
    obtain ⟨K, g⟩ := ih (j + 1) (by omega) (by omega)
    simp only at g
    obtain ⟨u, c, e1, e2, hu, hcn, ha⟩ := hc i j hij (by omega)
    have h1 := hM.1
    have h2 := hM.2 u hu
    have e3 : rdOf false (rd_L7 M (u : Int)) (c : Int) = at2 M u c := rfl
    refine ⟨K + 1, fun k hk => ?_⟩
    obtain ⟨k, rfl⟩ : ∃ m, k = m + 1 := ⟨k - 1, by omega⟩
    simp only [ladderbacklaw21_CallsCircle.l7]
    rw [if_pos (by omega), if_pos (by omega), if_pos (by omega), if_pos (by omega), e1, e2, if_neg (by omega), if_neg (by omega), if_neg (by omega), if_neg (by omega), if_pos (by omega), if_pos (by omega), if_pos (by omega), if_pos (by omega), e3, ha, wnext j (by omega)]
    simp only [Bool.false_eq_true, if_false]
    exact g k (by omega)
theorem l6_ev (n : Nat) (hn : n ≤ 21) (M : List (List Bool)) (hM : Sq n M) (L : List Int) (hL : L.length ≤ n) (hc : Chk n M L) : ∀ (r i : Nat), i + r = L.length →
    Ev (fun k => ladderbacklaw21_CallsCircle.l6 k (n : Int) M L (i : Int)) true := by
  intro r
  induction r with
  | zero =>
    intro i hi
    obtain ⟨K, g⟩ := awake_ev
    simp only at g
    refine ⟨K + 1, fun k hk => ?_⟩
    obtain ⟨k, rfl⟩ : ∃ m, k = m + 1 := ⟨k - 1, by omega⟩
    simp only [ladderbacklaw21_CallsCircle.l6]
    rw [if_neg (by omega), g k (by omega)]
    rfl
  | succ r ih =>
    intro i hi
    obtain ⟨K, g⟩ := l7_ev n hn M hM L hL hc i (by omega) (ih (i + 1) (by omega)) (r + 1) i (Nat.le_refl _) hi
    simp only at g
    refine ⟨K + 1, fun k hk => ?_⟩
    obtain ⟨k, rfl⟩ : ∃ m, k = m + 1 := ⟨k - 1, by omega⟩
    simp only [ladderbacklaw21_CallsCircle.l6]
    rw [if_pos (by omega)]
    exact g k (by omega)
theorem j6_ev (n : Nat) (hn : n ≤ 21) (M : List (List Bool)) (hM : Sq n M) (L : List Int) (hL : L.length ≤ n) (hc : Chk n M L) : Ev (fun k => ladderbacklaw21_CallsCircle.j6 k (n : Int) M L false) true := by
  obtain ⟨K, g⟩ := l6_ev n hn M hM L hL hc L.length 0 (Nat.zero_add _)
  simp only at g
  refine ⟨K + 1, fun k hk => ?_⟩
  obtain ⟨k, rfl⟩ : ∃ m, k = m + 1 := ⟨k - 1, by omega⟩
  simp only [ladderbacklaw21_CallsCircle.j6, Bool.false_eq_true, if_false]
  exact g k (by omega)
theorem end_ev (l : List S69) (ok : Ok l) (M : List (List Bool)) (h : Mid l l.length 0 0 M) : Ev (fun k => ladderbacklaw21_CallsCircle.l5 k l (l.length : Int) M ((List.range' 0 l.length).any fun v => at2 M v v) (l.length : Int)) true := by
  have hl := ok.1
  obtain ⟨K1, g1⟩ := order_ev l ok
  simp only at g1
  rcases ordS_spec l l.length [] (by simp) ⟨by simp, by simp, fun i u hi => by simp at hi⟩ with ⟨L, e, hLl, hg⟩ | ⟨e, hs⟩
  · rw [e] at g1
    have hB : ((List.range' 0 l.length).any fun v => at2 M v v) = false := by
      rw [List.any_eq_false]
      intro v hv
      have hv' := List.mem_range'_1.mp hv
      intro ha
      exact none_circle l L hg hLl v (by omega) (h.2.1 v v (by omega) (by omega) ha)
    rw [hB]
    have hc : Chk l.length M L := by
      intro i j hij hj
      have hi := hg.2.1 _ (rd_mem L i (by omega))
      have hj' := hg.2.1 _ (rd_mem L j hj)
      obtain ⟨u, hu⟩ : ∃ u : Nat, rd L (i : Int) = (u : Int) := ⟨(rd L (i : Int)).toNat, by omega⟩
      obtain ⟨c, hc⟩ : ∃ u : Nat, rd L (j : Int) = (u : Int) := ⟨(rd L (j : Int)).toNat, by omega⟩
      refine ⟨u, c, hu, hc, by omega, by omega, ?_⟩
      refine Bool.eq_false_iff.mpr fun ha => ?_
      have hp := h.2.1 u c (by omega) (by omega) ha
      have hb := behind l L hg l.length (Nat.le_refl _) i u c (by omega) hu (by omega) hp
      rw [← hc] at hb
      exact not_take L hg.1 i j hij hj hb
    obtain ⟨K2, g2⟩ := j6_ev l.length hl M h.1 L (by omega) hc
    simp only at g2
    refine ⟨max K1 K2 + 1, fun k hk => ?_⟩
    obtain ⟨k, rfl⟩ : ∃ m, k = m + 1 := ⟨k - 1, by omega⟩
    simp only [ladderbacklaw21_CallsCircle.l5]
    rw [if_neg (by omega), g1 k (by omega)]
    simp only [Option.bind_some]
    rw [if_neg (by simp), if_pos trivial, if_pos (by omega)]
    exact g2 k (by omega)
  · rw [e] at g1
    have hB : ((List.range' 0 l.length).any fun v => at2 M v v) = true := by
      obtain ⟨u, hu, hp⟩ := circle l hs
      rw [List.any_eq_true]
      exact ⟨u, List.mem_range'_1.mpr ⟨by omega, by omega⟩, h.2.2.1 u u hu hu hp⟩
    rw [hB]
    obtain ⟨K2, g2⟩ := j6_ev l.length hl M h.1 [] (by simp) (fun i j hij hj => by simp at hj)
    simp only at g2
    refine ⟨max K1 K2 + 1, fun k hk => ?_⟩
    obtain ⟨k, rfl⟩ : ∃ m, k = m + 1 := ⟨k - 1, by omega⟩
    simp only [ladderbacklaw21_CallsCircle.l5]
    rw [if_neg (by omega), g1 k (by omega)]
    simp only [Option.bind_some]
    rw [if_neg (by simp), if_neg (by simp), show (decide ((([] : List Int).length : Int) > 0)) = false from rfl]
    exact g2 k (by omega)
theorem CallsCircle : ladderbacklaw21_CallsCircle.Pure := by
  intro l hl0
  obtain ⟨Ka, ga⟩ := awake_ev
  simp only at ga
  rcases few_ev l with ⟨K, g⟩ | ⟨ok, K, g⟩
  · simp only at g
    refine ⟨max K Ka, ?_⟩
    simp only [ladderbacklaw21_CallsCircle.f]
    rw [g _ (by omega)]
    simp only [Option.bind_some, Bool.false_eq_true, if_false]
    rw [ga _ (by omega)]
    rfl
  · simp only at g
    have hl := ok.1
    have five : ∀ M, Mid l l.length 0 0 M → Ev (fun k => ladderbacklaw21_CallsCircle.l5 k l (l.length : Int) M false 0) true := fun M h => l5_ev l ok M h.1 l.length 0 false (Nat.zero_add _) (by rw [Bool.false_or]; exact end_ev l ok M h)
    have two : ∀ M, Inv0 l l.length M → Ev (fun k => ladderbacklaw21_CallsCircle.l2 k l (l.length : Int) M 0) true := fun M h => l2_ev l ok five l.length 0 M (Nat.zero_add _) ⟨⟨h.1, fun u hu => (h.2 u hu).1⟩, fun v d hv hd hvd => by
        rw [(h.2 v hv).2 d hd] at hvd
        exact P_up l v d l.length 0 (by omega) hvd, fun v d hv hd hp => by
        rw [(h.2 v hv).2 d hd]; exact hp, fun v d hv hd hor hp => by omega⟩
    obtain ⟨K2, g2⟩ := l0_ev l ok two l.length 0 (List.replicate l.length []) (Nat.zero_add _) ⟨by simp, fun v hv => by omega⟩
    simp only at g2
    refine ⟨max K K2, ?_⟩
    simp only [ladderbacklaw21_CallsCircle.f]
    rw [g _ (by omega)]
    simp only [Option.bind_some, if_true]
    rw [if_pos (by omega), if_pos (by omega), Int.toNat_natCast]
    exact g2 _ (by omega)
end Go.Proofs.Ytfiffhcpgojkhaa.Pure
