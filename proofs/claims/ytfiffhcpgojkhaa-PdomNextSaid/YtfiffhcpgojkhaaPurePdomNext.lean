/- PdomNext: the nearest postdominator of a place is what all places meet to which it goes on; plain. No condition. -/
import Derived.Test.YtfiffhcpgojkhaaPdyPdomNext
import Derived.Test.YtfiffhcpgojkhaaPdfPdomNext
namespace Go.Proofs.Ytfiffhcpgojkhaa.Pure
open Go.Proofs.Ytfiffhcpgojkhaa Go.Proofs.Ytfiffhcpgojkhaa.QPdomNext Go.Proofs.Ytfiffhcpgojkhaa.PdB Go.Proofs.Ytfiffhcpgojkhaa.PdtPdomNext Go.Proofs.Ytfiffhcpgojkhaa.PdyPdomNext Go.Proofs.Ytfiffhcpgojkhaa.PdfPdomNext Go.Proofs.Ytfiffhcpgojkhaa.DomS Go.Proofs.Ytfiffhcpgojkhaa.DomA Go.Proofs.Ytfiffhcpgojkhaa.DomF Go.Proofs.Ytfiffhcpgojkhaa.DomP Go.Proofs.Ytfiffhcpgojkhaa.DomT Go.RowKit Go.Proofs.YtfiffhcpgojkhaaW.PrintWords Go.Proofs.YtfiffhcpgojkhaaW.PrintLast Go.Proofs.YtfiffhcpgojkhaaW.PrintMore
set_option linter.unusedSimpArgs false
set_option linter.unusedVariables false
/-- What is known of a graph, the turned one and its nearest dominators. -/
structure Kn (next T : List (List Int)) (D : List Int) : Prop where
  tn : Tn next T
  sm : Small T
  nr : Near T D
  n20 : next.length ≤ 20
theorem w_at {next T : List (List Int)} {D : List Int} (h : Kn next T D) (i : Nat) (hi : i < next.length) : rd ((D.drop 1).map (wv next.length)) (i : Int) = wv next.length (D.getD (i + 1) 0) := by
  have hl : D.length = next.length + 1 := h.nr.len.trans h.tn.len
  simp [rd, List.getD_eq_getElem?_getD, Nat.add_comm, show i + 1 < D.length by omega, show 1 + i < D.length by omega]
theorem w_len {next T : List (List Int)} {D : List Int} (h : Kn next T D) : ((D.drop 1).map (wv next.length)).length = next.length := by
  have hl : D.length = next.length + 1 := h.nr.len.trans h.tn.len
  rw [List.length_map, List.length_drop]; omega
theorem filt_lt {l : List Nat} {p q : Nat → Bool} (h : ∀ x, p x = true → q x = true) {y : Nat} (hy : y ∈ l) (h1 : q y = true) (h2 : p y = false) : (l.filter p).length < (l.filter q).length := by
  induction l with
  | nil => cases hy
  | cons a l ih =>
    have hle : ∀ l : List Nat, (l.filter p).length ≤ (l.filter q).length := by
      intro l
      induction l with
      | nil => simp
      | cons b l ih =>
        by_cases e : p b = true
        · rw [List.filter_cons_of_pos e, List.filter_cons_of_pos (h b e)]; simp only [List.length_cons]; omega
        · rw [List.filter_cons_of_neg e]
          by_cases e2 : q b = true
          · rw [List.filter_cons_of_pos e2]; simp only [List.length_cons]; omega
          · rw [List.filter_cons_of_neg e2]; exact ih
    rcases List.mem_cons.mp hy with rfl | hy
    · rw [List.filter_cons_of_neg (by simp [h2]), List.filter_cons_of_pos h1]
      have := hle l
      simp only [List.length_cons]; omega
    · have := ih hy
      by_cases e : p a = true
      · rw [List.filter_cons_of_pos e, List.filter_cons_of_pos (h a e)]; simp only [List.length_cons]; omega
      · rw [List.filter_cons_of_neg e]
        by_cases e2 : q a = true
        · rw [List.filter_cons_of_pos e2]; simp only [List.length_cons]; omega
        · rw [List.filter_cons_of_neg e2]; exact this
open Classical in
/-- How many dominate a place. -/
noncomputable def cntD (T : List (List Int)) (v : Nat) : Nat := ((List.range T.length).filter fun x => decide (Dm T x v)).length
theorem cntD_le (T : List (List Int)) (v : Nat) : cntD T v ≤ T.length := by
  unfold cntD
  refine Nat.le_trans (List.length_filter_le _ _) ?_
  simp
open Classical in
theorem cntD_lt {T : List (List Int)} {m v : Nat} (h : ∀ x, Dm T x m ↔ Dm T x v ∧ x ≠ v) (hv : Dm T v v) : cntD T m < cntD T v := by
  unfold cntD
  refine filt_lt (y := v) ?_ ?_ ?_ ?_
  · intro x hx
    exact decide_eq_true ((h x).mp (of_decide_eq_true hx)).1
  · exact List.mem_range.mpr (DomP.Rch.lt hv.1)
  · exact decide_eq_true hv
  · exact decide_eq_false fun hx => ((h v).mp hx).2 rfl
theorem wayl_ev {next T : List (List Int)} {D : List Int} (h : Kn next T D) : ∀ (c i : Nat) (out : List Int), i ≤ next.length → Rch T (phi next.length i) → cntD T (phi next.length i) ≤ c → out.length + c ≤ 1000 →
    ∃ L : List Nat, Ev (fun k => pdom_way.l0 k ((D.drop 1).map (wv next.length)) (i : Int) out) (out ++ L.map fun a : Nat => (a : Int)) ∧ (∀ a, a ∈ L ↔ a ≤ next.length ∧ a ≠ i ∧ Dm T (phi next.length a) (phi next.length i)) ∧ L.Pairwise (fun a b => Dm T (phi next.length b) (phi next.length a)) ∧ L.length ≤ c := by
  have hTl := h.tn.len
  have hWl := w_len h
  obtain ⟨refl, trans, lin, anti, rch⟩ := dm_facts T h.sm (by omega)
  intro c
  induction c with
  | zero =>
    intro i out hi hr hc
    exfalso
    have h1 := refl _ hr
    unfold cntD at hc
    have h2 : ((List.range T.length).filter fun x => @decide (Dm T x (phi next.length i)) (Classical.propDecidable _)) = [] := List.eq_nil_of_length_eq_zero (by omega)
    have h3 := List.filter_eq_nil_iff.mp h2 (phi next.length i) (List.mem_range.mpr (DomP.Rch.lt hr))
    exact h3 (@decide_eq_true _ (Classical.propDecidable _) h1)
  | succ c ih =>
    intro i out hi hr hc ho
    by_cases hin : i = next.length
    · refine ⟨[], ⟨1, fun k hk => ?_⟩, fun a => ?_, List.Pairwise.nil, Nat.zero_le _⟩
      · obtain ⟨k, rfl⟩ : ∃ m, k = m + 1 := ⟨k - 1, by omega⟩
        simp only [pdom_way.l0]
        rw [if_neg (by omega), List.map_nil, List.append_nil]
      · constructor
        · intro ha; cases ha
        · rintro ⟨h1, h2, h3⟩
          exfalso
          have e0 : phi next.length i = 0 := by simp [phi, hin]
          rw [e0] at h3
          have h4 := anti _ _ h3 (dm_root T (rch _ _ h3))
          rw [← e0] at h4
          exact h2 (phi_inj h4)
    · have ei : phi next.length i = i + 1 := by unfold phi; rw [if_neg hin]
      rw [ei] at hr
      obtain ⟨m, e, hm, hne, hx⟩ := h.nr.yes (i + 1) hr (by omega)
      have hml := DomP.Rch.lt hm
      obtain ⟨y, hy, rfl⟩ := phi_sur (n := next.length) (p := m) (by omega)
      have hw : rd ((D.drop 1).map (wv next.length)) (i : Int) = (y : Int) := by
        rw [w_at h i (by omega), e]
        unfold wv phi
        split
        · rename_i e0; rw [e0]; rfl
        · rw [if_neg (by omega), if_neg (by omega)]; omega
      have hlt := cntD_lt hx (refl _ hr)
      rw [ei] at hc
      obtain ⟨L, ⟨K, g⟩, h1, h2, h3⟩ := ih y (out ++ [(y : Int)]) hy hm (by omega) (by rw [List.length_append]; simp only [List.length_cons, List.length_nil]; omega)
      simp only at g
      refine ⟨y :: L, ⟨K + 1, fun k hk => ?_⟩, fun a => ?_, List.Pairwise.cons (fun b hb => ((h1 b).mp hb).2.2) h2, by simp only [List.length_cons]; omega⟩
      · obtain ⟨k, rfl⟩ : ∃ m, k = m + 1 := ⟨k - 1, by omega⟩
        simp only [pdom_way.l0]
        rw [if_pos (by omega), if_pos (by omega), if_pos (by omega), hw, g k (by omega)]
        simp
      · rw [List.mem_cons, h1, ei]
        constructor
        · rintro (rfl | ⟨a1, a2, a3⟩)
          · exact ⟨hy, fun e2 => hne (by rw [e2, ei]), ((hx _).mp (refl _ hm)).1⟩
          · have h4 := (hx _).mp a3
            exact ⟨a1, fun e2 => h4.2 (by rw [e2, ei]), h4.1⟩
        · rintro ⟨a1, a2, a3⟩
          by_cases e2 : a = y
          · exact Or.inl e2
          · exact Or.inr ⟨a1, e2, (hx _).mpr ⟨a3, fun e3 => a2 (phi_inj (e3.trans ei.symm))⟩⟩
/-- The way of a place: what dominates it, the nearest first. -/
structure Wy (next T : List (List Int)) (D : List Int) (i : Nat) (L : List Nat) : Prop where
  ev : Ev (fun k => pdom_way.f k ((D.drop 1).map (wv next.length)) (i : Int)) (L.map fun a : Nat => (a : Int))
  mem : ∀ a, a ∈ L ↔ a ≤ next.length ∧ Dm T (phi next.length a) (phi next.length i)
  srt : L.Pairwise (fun a b => Dm T (phi next.length b) (phi next.length a))
  len : L.length ≤ 1000
theorem way_some {next T : List (List Int)} {D : List Int} (h : Kn next T D) (i : Nat) (hi : i < next.length) (hr : Rch T (i + 1)) : ∃ L, Wy next T D i L := by
  have hTl := h.tn.len
  have hWl := w_len h
  have := h.n20
  obtain ⟨refl, trans, lin, anti, rch⟩ := dm_facts T h.sm (by omega)
  have ei : phi next.length i = i + 1 := by unfold phi; rw [if_neg (by omega)]
  have hle := cntD_le T (phi next.length i)
  obtain ⟨L, ⟨K, g⟩, h1, h2, h3⟩ := wayl_ev h T.length i [(i : Int)] (by omega) (by rw [ei]; exact hr) hle (by simp only [List.length_cons, List.length_nil]; omega)
  simp only at g
  have hpos : 0 ≤ rd ((D.drop 1).map (wv next.length)) (i : Int) := by
    obtain ⟨m, e, hm, hne, hx⟩ := h.nr.yes (i + 1) hr (by omega)
    rw [w_at h i hi, e]
    unfold wv
    rw [if_neg (by omega)]
    split <;> omega
  refine ⟨i :: L, ⟨⟨K + 1, fun k hk => ?_⟩, fun a => ?_, List.Pairwise.cons (fun b hb => ((h1 b).mp hb).2.2) h2, by simp only [List.length_cons]; omega⟩⟩
  · obtain ⟨k, rfl⟩ : ∃ m, k = m + 1 := ⟨k - 1, by omega⟩
    simp only [pdom_way.f]
    rw [if_neg (by omega), if_neg (by omega), if_pos (by omega), if_pos (by omega), decide_eq_false (by omega)]
    simp only [pdom_way.j0, Bool.false_eq_true, if_false]
    rw [g k (by omega)]
    simp
  · rw [List.mem_cons, h1]
    constructor
    · rintro (rfl | ⟨a1, a2, a3⟩)
      · exact ⟨by omega, by rw [ei]; exact refl _ hr⟩
      · exact ⟨a1, a3⟩
    · rintro ⟨a1, a3⟩
      by_cases e2 : a = i
      · exact Or.inl e2
      · exact Or.inr ⟨a1, e2, a3⟩
theorem rdm (L : List Nat) (j : Nat) (h : j < L.length) : rd (L.map fun a : Nat => (a : Int)) (j : Int) = ((L[j] : Nat) : Int) := by
  simp [rd, List.getD_eq_getElem?_getD, h]
theorem l2_ev (l1 W X Z : List Int) (at_ : Int) (p q : Nat) (Y : List Int) (hY : Y.length ≤ 1000) (hq : q ≤ 1000) (hp : p ≤ 1000) (R : Int) (xl zl : Int)
    (hyes : at_ ∈ Y → Ev (fun k => pdom_Meets.l1 k l1 W at_ X xl (p : Int) Z zl ((q + 1 : Nat) : Int)) R) (hno : at_ ∉ Y → Ev (fun k => pdom_Meets.l0 k l1 W X xl ((p + 1 : Nat) : Int)) R) :
    ∀ (r m : Nat) (b : Bool), m + r = Y.length → (b = true ↔ at_ ∈ Y.take m) → Ev (fun k => pdom_Meets.l2 k l1 W at_ b X xl (p : Int) Z zl (q : Int) Y (Y.length : Int) (m : Int)) R := by
  intro r
  induction r with
  | zero =>
    intro m b hm hb
    obtain rfl : m = Y.length := by omega
    rw [List.take_length] at hb
    cases b with
    | true =>
      obtain ⟨K, g⟩ := hyes (hb.mp rfl)
      simp only at g
      refine ⟨K + 1, fun k hk => ?_⟩
      obtain ⟨k, rfl⟩ : ∃ m, k = m + 1 := ⟨k - 1, by omega⟩
      simp only [pdom_Meets.l2]
      rw [if_neg (by omega), if_pos trivial, wnext q (by omega)]
      exact g k (by omega)
    | false =>
      obtain ⟨K, g⟩ := hno (fun hc => by have := hb.mpr hc; cases this)
      simp only at g
      refine ⟨K + 1, fun k hk => ?_⟩
      obtain ⟨k, rfl⟩ : ∃ m, k = m + 1 := ⟨k - 1, by omega⟩
      simp only [pdom_Meets.l2]
      rw [if_neg (by omega), if_neg (by simp), wnext p (by omega)]
      exact g k (by omega)
  | succ r ih =>
    intro m b hm hb
    have ht := take_rd Y m (by omega)
    cases b with
    | true =>
      obtain ⟨K, g⟩ := ih (m + 1) true (by omega) (by rw [ht, List.mem_append]; exact ⟨fun _ => Or.inl (hb.mp rfl), fun _ => rfl⟩)
      simp only at g
      refine ⟨K + 1, fun k hk => ?_⟩
      obtain ⟨k, rfl⟩ : ∃ m, k = m + 1 := ⟨k - 1, by omega⟩
      simp only [pdom_Meets.l2]
      rw [if_pos (by omega), if_pos (by omega), if_pos (by omega), if_pos trivial, wnext m (by omega)]
      exact g k (by omega)
    | false =>
      have hn : at_ ∉ Y.take m := fun hc => by have := hb.mpr hc; cases this
      obtain ⟨K, g⟩ := ih (m + 1) (rd Y (m : Int) == at_) (by omega) (by
        rw [ht, List.mem_append, List.mem_singleton, beq_iff_eq]
        exact ⟨fun e => Or.inr e.symm, fun e => (e.resolve_left hn).symm⟩)
      simp only at g
      refine ⟨K + 1, fun k hk => ?_⟩
      obtain ⟨k, rfl⟩ : ∃ m, k = m + 1 := ⟨k - 1, by omega⟩
      simp only [pdom_Meets.l2]
      rw [if_pos (by omega), if_pos (by omega), if_pos (by omega), if_neg (by simp), wnext m (by omega)]
      exact g k (by omega)
theorem memc (L : List Nat) (a : Nat) : (a : Int) ∈ L.map (fun a : Nat => (a : Int)) ↔ a ∈ L := by
  rw [List.mem_map]
  constructor
  · rintro ⟨b, hb, e⟩
    have : b = a := by omega
    exact this ▸ hb
  · intro h; exact ⟨a, h, rfl⟩
theorem l1m_ev {next T : List (List Int)} {D : List Int} (l1 X : List Int) (xl : Int) (a p : Nat) (hp : p ≤ 1000) (Z : List Nat) (hZl : Z.length ≤ 1000) (Lw : Nat → List Nat) (hZ : ∀ s ∈ Z, Wy next T D s (Lw s)) (R : Int)
    (hyes : (∀ s ∈ Z, a ∈ Lw s) → R = (a : Int)) (hno : ¬ (∀ s ∈ Z, a ∈ Lw s) → Ev (fun k => pdom_Meets.l0 k l1 ((D.drop 1).map (wv next.length)) X xl ((p + 1 : Nat) : Int)) R) :
    ∀ (r q : Nat), q + r = Z.length → (∀ s ∈ Z.take q, a ∈ Lw s) → Ev (fun k => pdom_Meets.l1 k l1 ((D.drop 1).map (wv next.length)) (a : Int) X xl (p : Int) (Z.map fun a : Nat => (a : Int)) ((Z.map fun a : Nat => (a : Int)).length : Int) (q : Int)) R := by
  intro r
  induction r with
  | zero =>
    intro q hq hs
    obtain rfl : q = Z.length := by omega
    rw [List.take_length] at hs
    rw [hyes hs]
    refine ⟨1, fun k hk => ?_⟩
    obtain ⟨k, rfl⟩ : ∃ m, k = m + 1 := ⟨k - 1, by omega⟩
    simp only [pdom_Meets.l1, List.length_map]
    rw [if_neg (by omega)]
  | succ r ih =>
    intro q hq hs
    have hqz : q < Z.length := by omega
    have wy := hZ Z[q] (List.getElem_mem hqz)
    obtain ⟨K1, g1⟩ := wy.ev
    obtain ⟨K2, g2⟩ := l2_ev l1 ((D.drop 1).map (wv next.length)) X (Z.map fun a : Nat => (a : Int)) (a : Int) p q ((Lw Z[q]).map fun a : Nat => (a : Int)) (by rw [List.length_map]; exact wy.len) (by omega) hp R xl ((Z.map fun a : Nat => (a : Int)).length : Int)
      (fun hm => ih (q + 1) (by omega) (by
        intro s hs2
        rw [List.take_succ_eq_append_getElem hqz, List.mem_append, List.mem_singleton] at hs2
        rcases hs2 with h | rfl
        · exact hs s h
        · exact (memc _ _).mp hm))
      (fun hm => hno fun hall => hm ((memc _ _).mpr (hall _ (List.getElem_mem hqz)))) _ 0 false (Nat.zero_add _) (by simp)
    simp only at g1 g2
    refine ⟨max K1 K2 + 1, fun k hk => ?_⟩
    obtain ⟨k, rfl⟩ : ∃ m, k = m + 1 := ⟨k - 1, by omega⟩
    simp only [pdom_Meets.l1]
    rw [if_pos (by rw [List.length_map]; omega), if_pos (by omega), if_pos (by rw [List.length_map]; omega), rdm Z q hqz, g1 k (by omega)]
    simp only [Option.bind_some]
    exact g2 k (by omega)
theorem l0m_ev {next T : List (List Int)} {D : List Int} (s0 : Nat) (Z : List Nat) (hZl : Z.length ≤ 1000) (Lw : Nat → List Nat) (hZ : ∀ s ∈ Z, Wy next T D s (Lw s)) (X : List Nat) (hX : X.length ≤ 1000) :
    ∀ (r p : Nat), p + r = X.length → (∃ a ∈ X.drop p, ∀ s ∈ Z, a ∈ Lw s) →
      ∃ a B C, X.drop p = B ++ a :: C ∧ (∀ s ∈ Z, a ∈ Lw s) ∧ (∀ b ∈ B, ¬ ∀ s ∈ Z, b ∈ Lw s) ∧ Ev (fun k => pdom_Meets.l0 k ((s0 :: Z).map fun a : Nat => (a : Int)) ((D.drop 1).map (wv next.length)) (X.map fun a : Nat => (a : Int)) ((X.map fun a : Nat => (a : Int)).length : Int) (p : Int)) (a : Int) := by
  intro r
  induction r with
  | zero =>
    intro p hp hs
    rw [List.drop_eq_nil_of_le (by omega)] at hs
    obtain ⟨a, ha, _⟩ := hs
    cases ha
  | succ r ih =>
    intro p hp hs
    have hpx : p < X.length := by omega
    have hd : X.drop p = X[p] :: X.drop (p + 1) := List.drop_eq_getElem_cons hpx
    have hdr : (((s0 :: Z).map fun a : Nat => (a : Int)).drop 1) = Z.map fun a : Nat => (a : Int) := rfl
    by_cases hc : ∀ s ∈ Z, X[p] ∈ Lw s
    · obtain ⟨K, g⟩ := l1m_ev (next := next) (T := T) (D := D) ((s0 :: Z).map fun a : Nat => (a : Int)) (X.map fun a : Nat => (a : Int)) ((X.map fun a : Nat => (a : Int)).length : Int) X[p] p (by omega) Z hZl Lw hZ (X[p] : Int) (fun _ => rfl) (fun h => absurd hc h) Z.length 0 (by omega) (by simp)
      simp only at g
      refine ⟨X[p], [], X.drop (p + 1), by rw [hd]; rfl, hc, by simp, ⟨K + 1, fun k hk => ?_⟩⟩
      obtain ⟨k, rfl⟩ : ∃ m, k = m + 1 := ⟨k - 1, by omega⟩
      simp only [pdom_Meets.l0]
      rw [if_pos (by rw [List.length_map]; omega), if_pos (by omega), if_pos (by rw [List.length_map]; omega), if_pos (by rw [List.length_map]; simp only [List.length_cons]; omega), rdm X p hpx, hdr]
      exact g k (by omega)
    · obtain ⟨a, B, C, h1, h2, h3, h4⟩ := ih (p + 1) (by omega) (by
        obtain ⟨a, ha, hb⟩ := hs
        rw [hd, List.mem_cons] at ha
        rcases ha with rfl | ha
        · exact absurd hb hc
        · exact ⟨a, ha, hb⟩)
      obtain ⟨K, g⟩ := l1m_ev (next := next) (T := T) (D := D) ((s0 :: Z).map fun a : Nat => (a : Int)) (X.map fun a : Nat => (a : Int)) ((X.map fun a : Nat => (a : Int)).length : Int) X[p] p (by omega) Z hZl Lw hZ (a : Int) (fun h => absurd h hc) (fun _ => h4) Z.length 0 (by omega) (by simp)
      simp only at g
      refine ⟨a, X[p] :: B, C, by rw [hd, h1]; rfl, h2, ?_, ⟨K + 1, fun k hk => ?_⟩⟩
      · intro b hb
        rcases List.mem_cons.mp hb with rfl | hb
        · exact hc
        · exact h3 b hb
      · obtain ⟨k, rfl⟩ : ∃ m, k = m + 1 := ⟨k - 1, by omega⟩
        simp only [pdom_Meets.l0]
        rw [if_pos (by rw [List.length_map]; omega), if_pos (by omega), if_pos (by rw [List.length_map]; omega), if_pos (by rw [List.length_map]; simp only [List.length_cons]; omega), rdm X p hpx, hdr]
        exact g k (by omega)
theorem meets_ev {next T : List (List Int)} {D : List Int} (h : Kn next T D) (hN : Ev (fun k => pdom_Nearest.f k next) ((D.drop 1).map (wv next.length))) (S : List Nat) (hS : S ≠ []) (hSl : S.length ≤ 1000) (Lw : Nat → List Nat) (hw : ∀ s ∈ S, Wy next T D s (Lw s)) (hr : ∀ s ∈ S, Rch T (phi next.length s)) :
    ∃ a B C, Lw (S.headD 0) = B ++ a :: C ∧ (∀ s ∈ S, a ∈ Lw s) ∧ (∀ b ∈ B, ¬ ∀ s ∈ S, b ∈ Lw s) ∧ Ev (fun k => pdom_Meets.f k next (S.map fun a : Nat => (a : Int))) (a : Int) := by
  obtain ⟨s0, Z, rfl⟩ : ∃ s0 Z, S = s0 :: Z := by cases S with | nil => exact absurd rfl hS | cons a b => exact ⟨a, b, rfl⟩
  have w0 := hw s0 List.mem_cons_self
  have hend : ∀ s ∈ s0 :: Z, next.length ∈ Lw s := fun s hs => ((hw s hs).mem _).mpr ⟨Nat.le_refl _, by
    have e0 : phi next.length next.length = 0 := by simp [phi]
    rw [e0]; exact dm_root T (hr s hs)⟩
  obtain ⟨a, B, C, h1, h2, h3, ⟨K, g⟩⟩ := l0m_ev (next := next) (T := T) (D := D) s0 Z (by simp only [List.length_cons] at hSl; omega) Lw (fun s hs => hw s (List.mem_cons_of_mem _ hs)) (Lw s0) w0.len (Lw s0).length 0 (by omega) ⟨next.length, by rw [List.drop_zero]; exact hend s0 List.mem_cons_self, fun s hs => hend s (List.mem_cons_of_mem _ hs)⟩
  rw [List.drop_zero] at h1
  obtain ⟨K1, g1⟩ := hN
  obtain ⟨K2, g2⟩ := w0.ev
  simp only at g g1 g2
  refine ⟨a, B, C, h1, fun s hs => ?_, fun b hb hc => h3 b hb fun s hs => hc s (List.mem_cons_of_mem _ hs), ⟨max K (max K1 K2), fun k hk => ?_⟩⟩
  · rcases List.mem_cons.mp hs with rfl | hs
    · rw [h1]; simp
    · exact h2 s hs
  · simp only [pdom_Meets.f]
    rw [if_neg (by rw [List.length_map]; simp only [List.length_cons]; omega), g1 k (by omega)]
    simp only [Option.bind_some]
    rw [if_pos (by rw [List.length_map]; simp only [List.length_cons]; omega)]
    have e : rd ((s0 :: Z).map fun a : Nat => (a : Int)) 0 = (s0 : Int) := rfl
    rw [e, g2 k (by omega)]
    simp only [Option.bind_some]
    exact g k (by omega)
/-- The places to which one goes on. -/
def sucs (next : List (List Int)) (L : List Int) : List Int := L.filter fun c => decide (0 ≤ c ∧ c < (next.length : Int))
theorem dm_iff {next T : List (List Int)} {D : List Int} (h : Kn next T D) {i : Nat} (hi : i < next.length) {S : List Nat} (hm : ∀ s : Nat, s ∈ S ↔ s < next.length ∧ (s : Int) ∈ next.getD i []) (hS : S ≠ []) (hr : ∀ s ∈ S, Rch T (s + 1)) :
    Rch T (i + 1) ∧ ∀ x, x ≠ i + 1 → (Dm T x (i + 1) ↔ ∀ s ∈ S, Dm T x (s + 1)) := by
  have hTl := h.tn.len
  have hE : ∀ s ∈ S, E T (s + 1) (i + 1) := fun s hs => ⟨(h.tn.at_ s ((hm s).mp hs).1 _).mpr ⟨i, hi, by omega, ((hm s).mp hs).2⟩, by omega⟩
  obtain ⟨s0, hs0⟩ := List.exists_mem_of_ne_nil S hS
  have hri : Rch T (i + 1) := .step (hr s0 hs0) (hE s0 hs0)
  refine ⟨hri, fun x hx => ⟨fun hd s hs => ⟨hr s hs, dom_pre hd.2 (Ne.symm hx) ⟨hr s hs, hE s hs⟩⟩, fun hall => ⟨hri, fun ha => ?_⟩⟩⟩
  cases ha with
  | @step p _ hp he hne =>
    have hpe := he.2
    unfold E at hpe
    by_cases h0 : p = 0
    · subst h0
      obtain ⟨j, a, b, c⟩ := (h.tn.end_ _).mp hpe.1
      obtain rfl : j = i := by omega
      exact c _ ((hm s0).mp hs0).2 ⟨by omega, by have := ((hm s0).mp hs0).1; omega⟩
    · obtain ⟨s, rfl⟩ : ∃ s, p = s + 1 := ⟨p - 1, by omega⟩
      have hsl := DomP.Rch.lt he.1
      obtain ⟨j, a, b, c⟩ := (h.tn.at_ s (by omega) _).mp hpe.1
      obtain rfl : j = i := by omega
      exact (hall s ((hm s).mpr ⟨by omega, c⟩)).2 hp
theorem near_meets {next T : List (List Int)} {D : List Int} (h : Kn next T D) {i : Nat} (hi : i < next.length) {S : List Nat} (hm : ∀ s : Nat, s ∈ S ↔ s < next.length ∧ (s : Int) ∈ next.getD i []) (hS : S ≠ []) (hr : ∀ s ∈ S, Rch T (s + 1)) (Lw : Nat → List Nat) (hw : ∀ s ∈ S, Wy next T D s (Lw s))
    {a : Nat} {B C : List Nat} (h1 : Lw (S.headD 0) = B ++ a :: C) (h2 : ∀ s ∈ S, a ∈ Lw s) (h3 : ∀ b ∈ B, ¬ ∀ s ∈ S, b ∈ Lw s) : a = i ∨ wv next.length (D.getD (i + 1) 0) = (a : Int) := by
  have hTl := h.tn.len
  obtain ⟨refl, trans, lin, anti, rch⟩ := dm_facts T h.sm (by omega)
  obtain ⟨hri, hd⟩ := dm_iff h hi hm hS hr
  by_cases hai : a = i
  · exact Or.inl hai
  right
  have ei : phi next.length i = i + 1 := by unfold phi; rw [if_neg (by omega)]
  have es : ∀ s ∈ S, phi next.length s = s + 1 := fun s hs => by unfold phi; rw [if_neg (by have := ((hm s).mp hs).1; omega)]
  obtain ⟨m, e, hmr, hne, hx⟩ := h.nr.yes (i + 1) hri (by omega)
  have hml := DomP.Rch.lt hmr
  obtain ⟨y, hy, rfl⟩ := phi_sur (n := next.length) (p := m) (by omega)
  have hs0 : S.headD 0 ∈ S := by cases S with | nil => exact absurd rfl hS | cons a b => exact List.mem_cons_self
  have ha1 : Dm T (phi next.length a) (i + 1) := (hd _ (fun e2 => hai (phi_inj (e2.trans ei.symm)))).mpr fun s hs => by
    have := ((hw s hs).mem a).mp (h2 s hs)
    rw [es s hs] at this
    exact this.2
  have ha2 : Dm T (phi next.length a) (phi next.length y) := (hx _).mpr ⟨ha1, fun e2 => hai (phi_inj (e2.trans ei.symm))⟩
  have hy1 : ∀ s ∈ S, y ∈ Lw s := fun s hs => ((hw s hs).mem y).mpr ⟨hy, by rw [es s hs]; exact (hd _ hne).mp ((hx _).mp (refl _ hmr)).1 s hs⟩
  have hya : y = a := by
    have h4 := hy1 _ hs0
    rw [h1, List.mem_append, List.mem_cons] at h4
    rcases h4 with h4 | h4 | h4
    · exact absurd hy1 (h3 y h4)
    · exact h4
    · have hp := (hw _ hs0).srt
      rw [h1] at hp
      have hp2 := (List.pairwise_append.mp hp).2.1
      have h5 := (List.pairwise_cons.mp hp2).1 y h4
      exact phi_inj (anti _ _ h5 ha2)
  subst hya
  rw [e]
  unfold wv phi
  split
  · rename_i e0; rw [e0]; rfl
  · rw [if_neg (by omega), if_neg (by omega)]; omega
theorem near_end {next T : List (List Int)} {D : List Int} (h : Kn next T D) {i : Nat} (hi : i < next.length) (hno : ∀ c ∈ next.getD i [], ¬ (0 ≤ c ∧ c < (next.length : Int))) : wv next.length (D.getD (i + 1) 0) = (next.length : Int) := by
  have hTl := h.tn.len
  obtain ⟨refl, trans, lin, anti, rch⟩ := dm_facts T h.sm (by omega)
  have hE : E T 0 (i + 1) := ⟨(h.tn.end_ _).mpr ⟨i, hi, by omega, hno⟩, by omega⟩
  have h0 : Rch T 0 := .root (by omega)
  have hri : Rch T (i + 1) := .step h0 hE
  obtain ⟨m, e, hmr, hne, hx⟩ := h.nr.yes (i + 1) hri (by omega)
  have hm0 : m = 0 := by
    have h1 := ((hx m).mp (refl _ hmr)).1.2
    by_cases hm : m = 0
    · exact hm
    · exact absurd (Av.step (Av.root (Ne.symm hm)) ⟨h0, hE⟩ (Ne.symm hne)) h1
  rw [e, hm0]
  rfl
theorem last_ev {next T : List (List Int)} {D : List Int} (h : Kn next T D) (hN : Ev (fun k => pdom_Nearest.f k next) ((D.drop 1).map (wv next.length))) (hf : ∀ i, (next.getD i []).length ≤ 40) {E : List Bool} (hEl : E.length = next.length) (hE : ∀ v, v < next.length → E.getD v false = decide (((D.drop 1).map (wv next.length)).getD v 0 ≥ 0))
    {i : Nat} (hi : i < next.length) : ∀ (r j : Nat) (out : List Int), j + r = (next.getD i []).length → out = sucs next ((next.getD i []).take j) → (∀ c ∈ out, Rch T (c.toNat + 1)) → Ev (fun k => ladderbacklaw32_PdomNext.l0 k next (i : Int) E out (j : Int)) true := by
  have hTl := h.tn.len
  have hfi := hf i
  have hWl := w_len h
  obtain ⟨Ka, ga⟩ := awake_ev
  simp only at ga
  intro r
  induction r with
  | zero =>
    intro j out hj ho hro
    obtain rfl : j = (next.getD i []).length := by omega
    rw [List.take_length] at ho
    have hol : out.length ≤ 40 := by rw [ho]; exact Nat.le_trans (List.length_filter_le _ _) hfi
    obtain ⟨K1, g1⟩ := hN
    simp only at g1
    by_cases h0 : out.length = 0
    · have hno : ∀ c ∈ next.getD i [], ¬ (0 ≤ c ∧ c < (next.length : Int)) := by
        intro c hc h1
        have : c ∈ out := by rw [ho]; exact List.mem_filter.mpr ⟨hc, decide_eq_true h1⟩
        rw [List.eq_nil_of_length_eq_zero h0] at this
        cases this
      have e := near_end h hi hno
      refine ⟨max Ka K1 + 1, fun k hk => ?_⟩
      obtain ⟨k, rfl⟩ : ∃ m, k = m + 1 := ⟨k - 1, by omega⟩
      simp only [ladderbacklaw32_PdomNext.l0]
      rw [if_pos (by omega), if_pos (by omega), rdL1_eq, if_neg (by omega), g1 k (by omega)]
      simp only [Option.bind_some]
      rw [if_pos (by omega), if_pos (by omega), if_pos (by omega), w_at h i hi, if_pos e, ga k (by omega)]
      rfl
    · have hS2 : ∀ c ∈ out, 0 ≤ c ∧ c < (next.length : Int) := by
        intro c hc
        rw [ho] at hc
        exact of_decide_eq_true (List.mem_filter.mp hc).2
      obtain ⟨S, hSe⟩ : ∃ S : List Nat, S = out.map Int.toNat := ⟨_, rfl⟩
      have hSo : S.map (fun a : Nat => (a : Int)) = out := by
        rw [hSe, List.map_map]
        conv => rhs; rw [← List.map_id out]
        refine List.map_congr_left fun c hc => ?_
        have := (hS2 c hc).1
        simp only [Function.comp, id]
        omega
      have hSl : S.length ≤ 1000 := by rw [hSe, List.length_map]; omega
      have hSn : S ≠ [] := by
        rintro rfl
        rw [List.map_nil] at hSo
        rw [← hSo] at h0
        exact h0 rfl
      have hm : ∀ s : Nat, s ∈ S ↔ s < next.length ∧ (s : Int) ∈ next.getD i [] := by
        intro s
        rw [← memc, hSo, ho]
        unfold sucs
        rw [List.mem_filter, decide_eq_true_eq]
        constructor
        · rintro ⟨a, b⟩; exact ⟨by omega, a⟩
        · rintro ⟨a, b⟩; exact ⟨b, by omega, by omega⟩
      have hrs : ∀ s ∈ S, Rch T (s + 1) := by
        intro s hs
        have h1 : (s : Int) ∈ out := by rw [← hSo]; exact (memc _ _).mpr hs
        have := hro _ h1
        rwa [Int.toNat_natCast] at this
      have hlw : ∀ s, ∃ L, s ∈ S → Wy next T D s L := by
        intro s
        by_cases hs : s ∈ S
        · obtain ⟨L, hL⟩ := way_some h s ((hm s).mp hs).1 (hrs s hs)
          exact ⟨L, fun _ => hL⟩
        · exact ⟨[], fun h => absurd h hs⟩
      obtain ⟨Lw, hw⟩ := Classical.axiomOfChoice hlw
      obtain ⟨a, B, C, b1, b2, b3, ⟨K2, g2⟩⟩ := meets_ev h ⟨K1, g1⟩ S hSn hSl Lw hw (fun s hs => by
        have e : phi next.length s = s + 1 := by unfold phi; rw [if_neg (by have := ((hm s).mp hs).1; omega)]
        rw [e]; exact hrs s hs)
      rw [hSo] at g2
      simp only at g2
      have key := near_meets h hi hm hSn hrs Lw hw b1 b2 b3
      obtain ⟨K3, g3⟩ := has_ev out (i : Int) (by omega)
      simp only at g3
      refine ⟨max (max Ka K1) (max K2 K3) + 1, fun k hk => ?_⟩
      obtain ⟨k, rfl⟩ : ∃ m, k = m + 1 := ⟨k - 1, by omega⟩
      simp only [ladderbacklaw32_PdomNext.l0]
      rw [if_pos (by omega), if_pos (by omega), rdL1_eq, if_neg (by omega), g1 k (by omega)]
      simp only [Option.bind_some]
      rw [if_pos (by omega), if_neg (by omega), g2 k (by omega)]
      simp only [Option.bind_some]
      rw [if_pos (by omega), w_at h i hi]
      by_cases e1 : (a : Int) = wv next.length (D.getD (i + 1) 0)
      · rw [if_pos e1, ga k (by omega)]; rfl
      · rw [if_neg e1, g3 k (by omega)]
        simp only [Option.bind_some]
        split
        · rw [ga k (by omega)]; rfl
        · rcases key with rfl | key
          · rw [if_pos rfl, ga k (by omega)]; rfl
          · exact absurd key.symm e1
  | succ r ih =>
    intro j out hj ho hro
    have ht := take_rd (next.getD i []) j (by omega)
    have hol : out.length ≤ 40 := by
      rw [ho]
      refine Nat.le_trans (List.length_filter_le _ _) ?_
      rw [List.length_take]; omega
    by_cases hv : 0 ≤ rd (next.getD i []) (j : Int) ∧ rd (next.getD i []) (j : Int) < (next.length : Int)
    · obtain ⟨c, hc⟩ : ∃ c : Nat, rd (next.getD i []) (j : Int) = (c : Int) := ⟨(rd (next.getD i []) (j : Int)).toNat, by omega⟩
      rw [hc] at hv
      have e3 : rdOf false E (c : Int) = decide (rd ((D.drop 1).map (wv next.length)) (c : Int) ≥ 0) := by
        rw [rd_nat, ← hE c (by omega)]
        simp [rdOf]
      by_cases hp : rd ((D.drop 1).map (wv next.length)) (c : Int) ≥ 0
      · have hrc : Rch T (c + 1) := by
          by_cases hr : Rch T (c + 1)
          · exact hr
          · have e := h.nr.no (c + 1) (by omega) (Or.inl hr)
            rw [w_at h c (by omega), e] at hp
            unfold wv at hp; rw [if_pos rfl] at hp; omega
        obtain ⟨K, g⟩ := ih (j + 1) (out ++ [(c : Int)]) (by omega) (by
            rw [ht, ho, hc]
            unfold sucs
            rw [List.filter_append, List.filter_cons_of_pos (by rw [decide_eq_true_eq]; exact hv), List.filter_nil]) (by
            intro x hx
            rw [List.mem_append, List.mem_singleton] at hx
            rcases hx with hx | rfl
            · exact hro x hx
            · rw [Int.toNat_natCast]; exact hrc)
        simp only at g
        refine ⟨K + 2, fun k hk => ?_⟩
        obtain ⟨k, rfl⟩ : ∃ m, k = m + 2 := ⟨k - 2, by omega⟩
        simp only [ladderbacklaw32_PdomNext.l0]
        rw [if_pos (by omega), if_pos (by omega), rdL1_eq, if_pos (by omega), if_pos (by omega), hc, if_pos (by omega), decide_eq_true (by omega)]
        simp only [ladderbacklaw32_PdomNext.j2, if_true]
        rw [if_pos (by omega), if_pos (by omega), e3, decide_eq_true hp, if_pos rfl, if_pos (by omega), wnext j (by omega)]
        exact g k (by omega)
      · refine ⟨Ka + 2, fun k hk => ?_⟩
        obtain ⟨k, rfl⟩ : ∃ m, k = m + 2 := ⟨k - 2, by omega⟩
        simp only [ladderbacklaw32_PdomNext.l0]
        rw [if_pos (by omega), if_pos (by omega), rdL1_eq, if_pos (by omega), if_pos (by omega), hc, if_pos (by omega), decide_eq_true (by omega)]
        simp only [ladderbacklaw32_PdomNext.j2, if_true]
        rw [if_pos (by omega), if_pos (by omega), e3, decide_eq_false hp, if_neg (by simp), ga k (by omega)]
        rfl
    · obtain ⟨K, g⟩ := ih (j + 1) out (by omega) (by
        rw [ht, ho]
        unfold sucs
        rw [List.filter_append, List.filter_cons_of_neg (by rw [decide_eq_true_eq]; exact hv), List.filter_nil, List.append_nil]) hro
      simp only at g
      refine ⟨K + 2, fun k hk => ?_⟩
      obtain ⟨k, rfl⟩ : ∃ m, k = m + 2 := ⟨k - 2, by omega⟩
      simp only [ladderbacklaw32_PdomNext.l0]
      rw [if_pos (by omega), if_pos (by omega), rdL1_eq, if_pos (by omega), if_pos (by omega)]
      by_cases h0 : rd (next.getD i []) (j : Int) ≥ 0
      · rw [if_pos h0, decide_eq_false (by omega)]
        simp only [ladderbacklaw32_PdomNext.j2, Bool.false_eq_true, if_false]
        rw [wnext j (by omega)]
        exact g k (by omega)
      · rw [if_neg h0]
        simp only [ladderbacklaw32_PdomNext.j2, Bool.false_eq_true, if_false]
        rw [wnext j (by omega)]
        exact g k (by omega)
theorem PdomNext : ladderbacklaw32_PdomNext.Pure := by
  intro next hw i hwi
  apply Ev.rounds
  obtain ⟨K2, h2⟩ := awake_ev
  obtain ⟨b, ⟨K1, h1⟩, hb⟩ := few_ev next 20 (by omega)
  simp only at h1 h2
  have e20 : ((20 : Nat) : Int) = 20 := rfl
  rw [e20] at h1
  cases b with
  | false =>
    refine ⟨max K1 K2 + 1, fun k hk => ?_⟩
    obtain ⟨k, rfl⟩ : ∃ m, k = m + 1 := ⟨k - 1, by omega⟩
    simp only [ladderbacklaw32_PdomNext.f]
    rw [h1 (k + 1) (by omega)]
    simp only [Option.bind_some, Bool.false_eq_true, if_false, ladderbacklaw32_PdomNext.j0, if_true]
    rw [h2 k (by omega)]
    rfl
  | true =>
    obtain ⟨hn, hf⟩ := hb rfl
    by_cases hi : 0 ≤ i ∧ i < (next.length : Int)
    · obtain ⟨v, rfl⟩ : ∃ v : Nat, i = (v : Int) := ⟨i.toNat, by omega⟩
      obtain ⟨T, hT, tn⟩ := turned_ev next hn hf
      have hTl := tn.len
      have sm : Small T := ⟨by omega, tn.short⟩
      obtain ⟨D, hD, nr⟩ := near_some T sm (by omega)
      have kn : Kn next T D := ⟨tn, sm, nr, hn⟩
      have e1 := nearest_ev next T hn tn hT hD nr
      have hWl := w_len kn
      obtain ⟨E, hE, hEl, hEW⟩ := ends_ev next hn hWl e1
      obtain ⟨K5, h5⟩ := hE
      obtain ⟨K9, h9⟩ := last_ev kn e1 hf hEl hEW (i := v) (by omega) (next.getD v []).length 0 [] (by omega) rfl (by simp)
      simp only at h5 h9
      refine ⟨max (max K1 K2) (max K5 K9) + 1, fun k hk => ?_⟩
      obtain ⟨k, rfl⟩ : ∃ m, k = m + 1 := ⟨k - 1, by omega⟩
      simp only [ladderbacklaw32_PdomNext.f]
      rw [h1 (k + 1) (by omega)]
      simp only [Option.bind_some, if_true]
      rw [if_neg (by omega), decide_eq_false (by omega)]
      simp only [ladderbacklaw32_PdomNext.j0, Bool.false_eq_true, if_false]
      rw [h5 k (by omega)]
      simp only [Option.bind_some]
      rw [if_pos (by omega)]
      exact h9 k (by omega)
    · refine ⟨max K1 K2 + 1, fun k hk => ?_⟩
      obtain ⟨k, rfl⟩ : ∃ m, k = m + 1 := ⟨k - 1, by omega⟩
      simp only [ladderbacklaw32_PdomNext.f]
      rw [h1 (k + 1) (by omega)]
      simp only [Option.bind_some, if_true]
      by_cases h0 : i < 0
      · rw [if_pos h0]
        simp only [ladderbacklaw32_PdomNext.j0, if_true]
        rw [h2 k (by omega)]
        rfl
      · rw [if_neg h0, decide_eq_true (by omega)]
        simp only [ladderbacklaw32_PdomNext.j0, if_true]
        rw [h2 k (by omega)]
        rfl
end Go.Proofs.Ytfiffhcpgojkhaa.Pure
