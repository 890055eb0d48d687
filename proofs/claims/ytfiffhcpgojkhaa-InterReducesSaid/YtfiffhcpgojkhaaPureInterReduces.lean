/- InterReduces: a graph is reducible, and its tower ends at one place, just if it has no circle without its back edges; plain. No condition. -/
import Derived.Test.YtfiffhcpgojkhaaPivInterReduces
import Derived.Test.YtfiffhcpgojkhaaPdfInterReduces
import Derived.Test.YtfiffhcpgojkhaaPddInterReduces
import Derived.Test.YtfiffhcpgojkhaaPhaInterReduces
namespace Go.Proofs.Ytfiffhcpgojkhaa.Pure
open Go.Proofs.Ytfiffhcpgojkhaa Go.Proofs.Ytfiffhcpgojkhaa.QInterReduces Go.Proofs.Ytfiffhcpgojkhaa.PdB Go.Proofs.Ytfiffhcpgojkhaa.PhaInterReduces Go.Proofs.Ytfiffhcpgojkhaa.PdrInterReduces Go.Proofs.Ytfiffhcpgojkhaa.PddInterReduces Go.Proofs.Ytfiffhcpgojkhaa.PdfInterReduces Go.Proofs.Ytfiffhcpgojkhaa.PikInterReduces Go.Proofs.Ytfiffhcpgojkhaa.PitInterReduces Go.Proofs.Ytfiffhcpgojkhaa.PiuInterReduces Go.Proofs.Ytfiffhcpgojkhaa.PivInterReduces Go.Proofs.Ytfiffhcpgojkhaa.DomF Go.Proofs.Ytfiffhcpgojkhaa.DomT Go.Proofs.Ytfiffhcpgojkhaa.DomP Go.Proofs.Ytfiffhcpgojkhaa.IntT Go.Proofs.Ytfiffhcpgojkhaa.IntU Go.RowKit Go.Proofs.YtfiffhcpgojkhaaW.PrintWords Go.Proofs.YtfiffhcpgojkhaaW.PrintLast Go.Proofs.YtfiffhcpgojkhaaW.PrintMore
set_option linter.unusedSimpArgs false
set_option linter.unusedVariables false
open Classical in
/-- Is the way from i to t one back? -/
noncomputable def bk (next : List (List Int)) (i : Nat) (t : Int) : Bool := decide (∃ u : Nat, t = (u : Int) ∧ u < next.length ∧ Dm next u i)
open Classical in
theorem bk_iff (next : List (List Int)) (i : Nat) (t : Int) : bk next i t = true ↔ ∃ u : Nat, t = (u : Int) ∧ u < next.length ∧ Dm next u i := by
  unfold bk
  exact decide_eq_true_iff
theorem back_ev (next : List (List Int)) (sm : Small next) (i : Nat) (hi : i < next.length) (t : Int) (ht : t ∈ next.getD i []) : Ev (fun k => ladderbackref33_Back.f k next (i : Int) t) (bk next i t) := by
  have hn := sm.1
  have hr := sm.2 i
  by_cases c1 : 0 ≤ t
  · by_cases c2 : t < (next.length : Int)
    · obtain ⟨u, rfl⟩ : ∃ u : Nat, t = (u : Int) := ⟨t.toNat, by omega⟩
      obtain ⟨K1, g1⟩ := has_ev (next.getD i []) (u : Int) (by omega)
      obtain ⟨d, ⟨K2, g2⟩, hd⟩ := dominates_ev next sm (u : Int) (i : Int)
      simp only at g1 g2
      have e : d = bk next i (u : Int) := by
        rw [Bool.eq_iff_iff, hd, bk_iff]
        constructor
        · rintro ⟨x, v, e1, e2, h1, h2⟩
          have : x = u := by omega
          subst this
          have : v = i := by omega
          subst this
          exact ⟨x, rfl, h1, h2⟩
        · rintro ⟨x, e1, h1, h2⟩
          exact ⟨x, i, e1, rfl, h1, h2⟩
      refine ⟨max K1 K2, fun k hk => ?_⟩
      simp only [ladderbackref33_Back.f]
      rw [if_pos (by omega), if_pos (by omega), if_pos (by omega), if_pos (by omega), if_pos (by omega), rdL1_eq, g1 k (by omega), decide_eq_true ht]
      simp only [Option.bind_some, if_true]
      rw [g2 k (by omega), e]
      rfl
    · refine ⟨0, fun k _ => ?_⟩
      have : bk next i t = false := by
        rw [Bool.eq_false_iff, Ne, bk_iff]
        rintro ⟨u, e, h, _⟩
        omega
      simp only [ladderbackref33_Back.f]
      rw [if_pos (by omega), if_pos (by omega), if_pos (by omega), if_neg (by omega), this]
  · refine ⟨0, fun k _ => ?_⟩
    have : bk next i t = false := by
      rw [Bool.eq_false_iff, Ne, bk_iff]
      rintro ⟨u, e, h, _⟩
      omega
    simp only [ladderbackref33_Back.f]
    rw [if_pos (by omega), if_pos (by omega), if_neg (by omega), this]
open Classical in
/-- A row without its ways back. -/
noncomputable def gr (next : List (List Int)) (i : Nat) : List Int := if Rch next i then (next.getD i []).filter fun t => !bk next i t else []
noncomputable def gG (next : List (List Int)) : List (List Int) := (List.range next.length).map (gr next)
theorem gG_at (next : List (List Int)) (i : Nat) (hi : i < next.length) : (gG next).getD i [] = gr next i := by
  simp [gG, List.getD_eq_getElem?_getD, hi]
theorem gG_len (next : List (List Int)) : (gG next).length = next.length := by simp [gG]
theorem gr_len (next : List (List Int)) (i : Nat) : (gr next i).length ≤ (next.getD i []).length := by
  unfold gr
  split
  · exact List.length_filter_le _ _
  · simp
theorem gG_E (next : List (List Int)) (a b : Nat) : E (gG next) a b ↔ F (pre next) a b := by
  unfold E F
  rw [gG_len]
  constructor
  · rintro ⟨h1, h2⟩
    by_cases ha : a < next.length
    · rw [gG_at next a ha] at h1
      unfold gr at h1
      split at h1
      · rename_i hR
        obtain ⟨h3, h4⟩ := List.mem_filter.mp h1
        refine ⟨⟨hR, h3, h2⟩, Classical.byContradiction fun hv => ?_⟩
        have : bk next a (b : Int) = true := (bk_iff _ _ _).mpr ⟨b, rfl, h2, hR, hv⟩
        rw [this] at h4
        cases h4
      · cases h1
    · exfalso
      have : (gG next).getD a [] = [] := by simp [List.getD_eq_getElem?_getD, gG, show next.length ≤ a by omega]
      rw [this] at h1
      cases h1
  · rintro ⟨⟨hR, h3, h2⟩, hv⟩
    refine ⟨?_, h2⟩
    rw [gG_at next a (Rch.lt hR)]
    unfold gr
    rw [if_pos hR]
    refine List.mem_filter.mpr ⟨h3, ?_⟩
    have : bk next a (b : Int) = false := by
      rw [Bool.eq_false_iff, Ne, bk_iff]
      rintro ⟨u, e, _, hd⟩
      have : b = u := by omega
      subst this
      exact hd.2 hv
    rw [this]
    rfl
theorem T_first {A : Type} {Fq : A → A → Prop} {a b : A} (h : T Fq a b) : ∃ u, Fq a u ∧ (u = b ∨ T Fq u b) := by
  induction h with
  | one h => exact ⟨_, h, .inl rfl⟩
  | more _ h ih =>
    obtain ⟨u, h1, h2 | h2⟩ := ih
    · subst h2; exact ⟨_, h1, .inr (.one h)⟩
    · exact ⟨u, h1, .inr (.more h2 h)⟩
theorem rw_T (next : List (List Int)) (u v : Nat) (hu : u < next.length) : Rw (gG next) (u : Int) (-1) v ↔ u = v ∨ T (F (pre next)) u v := by
  constructor
  · intro h
    induction h with
    | root h1 _ _ => exact .inl (by omega)
    | step _ he _ ih =>
      have hF := (gG_E next _ _).mp he
      rcases ih with e | ih
      · subst e; exact .inr (.one hF)
      · exact .inr (.more ih hF)
  · rintro (e | h)
    · subst e; exact .root rfl (by rw [gG_len]; exact hu) (by omega)
    · induction h with
      | one h => exact .step (.root rfl (by rw [gG_len]; exact hu) (by omega)) ((gG_E next _ _).mpr h) (by omega)
      | more _ h ih => exact .step ih ((gG_E next _ _).mpr h) (by omega)
theorem take_next1 (l : List Int) (j : Nat) (h : j < l.length) : l.take (j + 1) = l.take j ++ [l.getD j 0] := by
  rw [List.take_add_one, List.getD_eq_getElem?_getD, List.getElem?_eq_getElem h]
  rfl
/-- Whether there is a circle left. -/
theorem plain_ev (next : List (List Int)) (sm : Small next) : ∃ b : Bool, Ev (fun k => ladderbackref34_Plain.f k next) b ∧ (b = true ↔ ¬ Cyc (pre next)) := by
  have hn := sm.1
  obtain ⟨R, ⟨KR, gR⟩, hRl, hR⟩ := reach0_ev next sm
  simp only at gR
  have hGl := gG_len next
  have hGr : ∀ i, i < next.length → (gr next i).length ≤ 1000 := fun i _ => by have := gr_len next i; have := sm.2 i; omega
  have hbig : ∀ i, ((gG next).getD i []).length < 4611686018427387904 := by
    intro i
    by_cases hi : i < next.length
    · rw [gG_at next i hi]; have := hGr i hi; omega
    · simp [List.getD_eq_getElem?_getD, gG, show next.length ≤ i by omega]
  -- the search for a circle
  have l3 : ∀ i, i < next.length → (∃ b, Ev (fun k => ladderbackref34_Plain.l2 k (gG next) ((i + 1 : Nat) : Int)) b ∧ (b = true ↔ ∀ a, i < a → ¬ T (F (pre next)) a a)) → ∀ r j : Nat, j + r = (gr next i).length → (∀ x, x ∈ (gr next i).take j → ∀ u : Nat, x = (u : Int) → u < next.length → ¬ (u = i ∨ T (F (pre next)) u i)) →
      ∃ b, Ev (fun k => ladderbackref34_Plain.l3 k (gG next) (i : Int) (j : Int)) b ∧ (b = true ↔ ∀ a, i ≤ a → ¬ T (F (pre next)) a a) := by
    intro i hi hgo r
    have hrl := hGr i hi
    have hat : rd_L1 (gG next) (i : Int) = gr next i := by rw [rdL1_eq, gG_at next i hi]
    induction r with
    | zero =>
      intro j hj hx
      rw [List.take_of_length_le (by omega)] at hx
      obtain ⟨b, ⟨K, g⟩, hb⟩ := hgo
      simp only at g
      refine ⟨b, ⟨K + 1, fun k hk => ?_⟩, hb.trans ⟨fun h a ha => ?_, fun h a ha => h a (by omega)⟩⟩
      · obtain ⟨k, rfl⟩ : ∃ m, k = m + 1 := ⟨k - 1, by omega⟩
        simp only [ladderbackref34_Plain.l3]
        rw [if_pos (by omega), if_pos (by omega), hat, if_neg (by omega), wnext i (by omega)]
        exact g k (by omega)
      · by_cases e : a = i
        · subst e
          intro ht
          obtain ⟨u, h1, h2⟩ := T_first ht
          have h3 := (gG_E next a u).mpr h1
          have h4 := h3.1
          rw [gG_at next a hi] at h4
          exact hx _ h4 u rfl (by have := h3.2; omega) h2
        · exact h a (by omega)
    | succ r ih =>
      intro j hj hx
      obtain ⟨t, ht⟩ : ∃ t, t = (gr next i).getD j 0 := ⟨_, rfl⟩
      have htk : (gr next i).take (j + 1) = (gr next i).take j ++ [t] := by rw [ht]; exact take_next1 _ _ (by omega)
      have hrd : rd (gr next i) (j : Int) = t := by rw [PitInterReduces.rd_nat, ht]
      have htm : t ∈ gr next i := by
        rw [ht, List.getD_eq_getElem?_getD, List.getElem?_eq_getElem (by omega)]
        exact List.getElem_mem _
      have on : (∀ u : Nat, t = (u : Int) → u < next.length → ¬ (u = i ∨ T (F (pre next)) u i)) → ∀ x, x ∈ (gr next i).take (j + 1) → ∀ u : Nat, x = (u : Int) → u < next.length → ¬ (u = i ∨ T (F (pre next)) u i) := by
        intro h x hx2
        rw [htk, List.mem_append, List.mem_singleton] at hx2
        rcases hx2 with h2 | h2
        · exact hx x h2
        · rw [h2]; exact h
      by_cases c1 : 0 ≤ t ∧ t < (next.length : Int)
      · obtain ⟨u, hu⟩ : ∃ u : Nat, t = (u : Int) := ⟨t.toNat, by omega⟩
        obtain ⟨Q, ⟨KQ, gQ⟩, hQl, hQ⟩ := reach_ev (gG next) (by omega) hbig (u : Int) (-1)
        simp only at gQ
        by_cases c2 : Q.getD i false = true
        · refine ⟨false, ⟨KQ + 1, fun k hk => ?_⟩, ⟨fun h => (by cases h), fun h => ?_⟩⟩
          · obtain ⟨k, rfl⟩ : ∃ m, k = m + 1 := ⟨k - 1, by omega⟩
            simp only [ladderbackref34_Plain.l3]
            rw [if_pos (by omega), if_pos (by omega), hat, if_pos (by omega), if_pos (by omega), hrd, if_pos (by omega), if_pos (by omega), hu, gQ k (by omega)]
            simp only [Option.bind_some]
            rw [if_pos (by omega), PitInterReduces.rdb_nat, if_pos c2]
          · exfalso
            have h1 := (rw_T next u i (by omega)).mp ((hQ i).mp c2)
            have h2 : F (pre next) i u := (gG_E next i u).mp ⟨by rw [gG_at next i hi, ← hu]; exact htm, by omega⟩
            refine h i (Nat.le_refl _) ?_
            rcases h1 with e | h1
            · subst e; exact .one h2
            · exact T.trans (.one h2) h1
        · obtain ⟨b, ⟨K, g⟩, hb⟩ := ih (j + 1) (by omega) (on fun u' e hl h => c2 ((hQ i).mpr ((rw_T next u i (by omega)).mpr (by
            have : u' = u := by omega
            rw [this] at h; exact h))))
          simp only at g
          refine ⟨b, ⟨max K KQ + 1, fun k hk => ?_⟩, hb⟩
          obtain ⟨k, rfl⟩ : ∃ m, k = m + 1 := ⟨k - 1, by omega⟩
          simp only [ladderbackref34_Plain.l3]
          rw [if_pos (by omega), if_pos (by omega), hat, if_pos (by omega), if_pos (by omega), hrd, if_pos (by omega), if_pos (by omega), hu, gQ k (by omega)]
          simp only [Option.bind_some]
          rw [if_pos (by omega), PitInterReduces.rdb_nat, if_neg c2, wnext j (by omega)]
          exact g k (by omega)
      · obtain ⟨b, ⟨K, g⟩, hb⟩ := ih (j + 1) (by omega) (on fun u' e hl => by omega)
        simp only at g
        refine ⟨b, ⟨K + 1, fun k hk => ?_⟩, hb⟩
        obtain ⟨k, rfl⟩ : ∃ m, k = m + 1 := ⟨k - 1, by omega⟩
        simp only [ladderbackref34_Plain.l3]
        rw [if_pos (by omega), if_pos (by omega), hat, if_pos (by omega), if_pos (by omega), hrd, wnext j (by omega)]
        by_cases c2 : t ≥ 0
        · rw [if_pos c2, if_neg (by omega)]; exact g k (by omega)
        · rw [if_neg c2]; exact g k (by omega)
  have l2 : ∀ r i : Nat, i + r = next.length → ∃ b, Ev (fun k => ladderbackref34_Plain.l2 k (gG next) (i : Int)) b ∧ (b = true ↔ ∀ a, i ≤ a → ¬ T (F (pre next)) a a) := by
    intro r
    induction r with
    | zero =>
      intro i hi
      refine ⟨true, ⟨1, fun k hk => ?_⟩, ⟨fun _ a ha ht => ?_, fun _ => rfl⟩⟩
      · obtain ⟨k, rfl⟩ : ∃ m, k = m + 1 := ⟨k - 1, by omega⟩
        simp only [ladderbackref34_Plain.l2]
        rw [if_neg (by omega)]
      · obtain ⟨u, h1, _⟩ := T_first ht
        have := Rch.lt h1.1.1
        omega
    | succ r ih =>
      intro i hi
      obtain ⟨b, hb1, hb2⟩ := ih (i + 1) (by omega)
      obtain ⟨b2, ⟨K, g⟩, hb3⟩ := l3 i (by omega) ⟨b, hb1, hb2.trans ⟨fun h a ha => h a (by omega), fun h a ha => h a (by omega)⟩⟩ (gr next i).length 0 (by omega) (fun x hx => by rw [List.take_zero] at hx; cases hx)
      simp only at g
      refine ⟨b2, ⟨K + 1, fun k hk => ?_⟩, hb3⟩
      obtain ⟨k, rfl⟩ : ∃ m, k = m + 1 := ⟨k - 1, by omega⟩
      simp only [ladderbackref34_Plain.l2]
      rw [if_pos (by omega)]
      exact g k (by omega)
  obtain ⟨b, ⟨K2, g2⟩, hb⟩ := l2 next.length 0 (by omega)
  simp only at g2
  -- the rows without ways back
  have hmap : ∀ i, (List.range (i + 1)).map (gr next) = (List.range i).map (gr next) ++ [gr next i] := fun i => by rw [List.range_succ, List.map_append]; rfl
  have hml : ∀ i, ((List.range i).map (gr next)).length = i := fun i => by simp
  have l1 : ∀ i, i < next.length → Rch next i → Ev (fun k => ladderbackref34_Plain.l0 k next R ((List.range (i + 1)).map (gr next)) ((i + 1 : Nat) : Int)) b → ∀ r j : Nat, j + r = (next.getD i []).length →
      Ev (fun k => ladderbackref34_Plain.l1 k next R ((List.range i).map (gr next)) (i : Int) (((next.getD i []).take j).filter (fun t => !bk next i t)) (j : Int)) b := by
    intro i hi hRi hgo r
    have hrl := sm.2 i
    have hil := hml i
    induction r with
    | zero =>
      intro j hj
      obtain ⟨K, g⟩ := hgo
      simp only at g
      refine ⟨K + 2, fun k hk => ?_⟩
      obtain ⟨k, rfl⟩ : ∃ m, k = m + 2 := ⟨k - 2, by omega⟩
      simp only [ladderbackref34_Plain.l1]
      rw [if_pos (by omega), if_pos (by omega), rdL1_eq, if_neg (by omega)]
      simp only [ladderbackref34_Plain.j2, Bool.false_eq_true, if_false]
      rw [if_pos (by omega), wnext i (by omega), List.take_of_length_le (by omega)]
      have e : (next.getD i []).filter (fun t => !bk next i t) = gr next i := by unfold gr; rw [if_pos hRi]
      rw [e, ← hmap]
      exact g k (by omega)
    | succ r ih =>
      intro j hj
      obtain ⟨t, ht⟩ : ∃ t, t = (next.getD i []).getD j 0 := ⟨_, rfl⟩
      have htk : (next.getD i []).take (j + 1) = (next.getD i []).take j ++ [t] := by rw [ht]; exact take_next1 _ _ (by omega)
      have hrd : rd (next.getD i []) (j : Int) = t := by rw [PitInterReduces.rd_nat, ht]
      have htm : t ∈ next.getD i [] := by
        rw [ht, List.getD_eq_getElem?_getD (l := next.getD i []), List.getElem?_eq_getElem (by omega)]
        exact List.getElem_mem _
      obtain ⟨KB, gB⟩ := back_ev next sm i hi t htm
      obtain ⟨K, g⟩ := ih (j + 1) (by omega)
      simp only at gB g
      have hal : (((next.getD i []).take j).filter (fun t => !bk next i t)).length ≤ 1000 := by
        refine Nat.le_trans (List.length_filter_le _ _) ?_
        rw [List.length_take]
        omega
      refine ⟨max K KB + 2, fun k hk => ?_⟩
      obtain ⟨k, rfl⟩ : ∃ m, k = m + 2 := ⟨k - 2, by omega⟩
      simp only [ladderbackref34_Plain.l1]
      rw [if_pos (by omega), if_pos (by omega), rdL1_eq, if_pos (by omega), if_pos (by omega), PitInterReduces.rdb_nat, (hR i).mpr hRi]
      simp only [ladderbackref34_Plain.j2, if_true]
      rw [if_pos (by omega), if_pos (by omega), if_pos (by omega), rdL1_eq, if_pos (by omega), hrd, gB k (by omega)]
      simp only [Option.bind_some]
      rw [htk, List.filter_append] at g
      cases hbk : bk next i t with
      | true =>
        rw [List.filter_cons_of_neg (by rw [hbk]; decide), List.filter_nil, List.append_nil] at g
        rw [if_pos rfl, wnext j (by omega)]
        exact g k (by omega)
      | false =>
        rw [List.filter_cons_of_pos (by rw [hbk]; rfl), List.filter_nil] at g
        rw [if_neg (by decide), if_pos (by omega), wnext j (by omega)]
        exact g k (by omega)
  have l0 : ∀ r i : Nat, i + r = next.length → Ev (fun k => ladderbackref34_Plain.l0 k next R ((List.range i).map (gr next)) (i : Int)) b := by
    intro r
    induction r with
    | zero =>
      intro i hi
      obtain rfl : i = next.length := by omega
      refine ⟨K2 + 1, fun k hk => ?_⟩
      obtain ⟨k, rfl⟩ : ∃ m, k = m + 1 := ⟨k - 1, by omega⟩
      simp only [ladderbackref34_Plain.l0]
      rw [if_neg (by omega)]
      exact g2 k (by omega)
    | succ r ih =>
      intro i hi
      have hil := hml i
      have hrl := sm.2 i
      by_cases hRi : Rch next i
      · obtain ⟨K, g⟩ := l1 i (by omega) hRi (ih (i + 1) (by omega)) (next.getD i []).length 0 (by omega)
        simp only [List.take_zero, List.filter_nil] at g
        refine ⟨K + 1, fun k hk => ?_⟩
        obtain ⟨k, rfl⟩ : ∃ m, k = m + 1 := ⟨k - 1, by omega⟩
        simp only [ladderbackref34_Plain.l0]
        rw [if_pos (by omega)]
        exact g k (by omega)
      · obtain ⟨K, g⟩ := ih (i + 1) (by omega)
        simp only at g
        have e : gr next i = [] := by unfold gr; rw [if_neg hRi]
        have hb2 : R.getD i false = false := by
          cases h : R.getD i false with
          | true => exact absurd ((hR i).mp h) hRi
          | false => rfl
        rw [hmap, e] at g
        refine ⟨K + 3, fun k hk => ?_⟩
        obtain ⟨k, rfl⟩ : ∃ m, k = m + 3 := ⟨k - 3, by omega⟩
        simp only [ladderbackref34_Plain.l0, ladderbackref34_Plain.l1]
        rw [if_pos (by omega), if_pos (by omega), if_pos (by omega), rdL1_eq]
        by_cases c : (0 : Int) < ((next.getD i []).length : Int)
        · rw [if_pos c, if_pos (by omega), PitInterReduces.rdb_nat, hb2]
          simp only [ladderbackref34_Plain.j2, Bool.false_eq_true, if_false]
          rw [if_pos (by omega), wnext i (by omega)]
          exact g k (by omega)
        · rw [if_neg c]
          simp only [ladderbackref34_Plain.j2, Bool.false_eq_true, if_false]
          rw [if_pos (by omega), wnext i (by omega)]
          exact g k (by omega)
  obtain ⟨K0, g0⟩ := l0 next.length 0 (by omega)
  simp only [List.range_zero, List.map_nil] at g0
  refine ⟨b, ⟨max KR K0, fun k hk => ?_⟩, hb.trans ⟨fun h ⟨x, hx⟩ => h x (Nat.zero_le _) hx, fun h a _ hx => h ⟨a, hx⟩⟩⟩
  simp only [ladderbackref34_Plain.f]
  rw [gR k (by omega)]
  simp only [Option.bind_some]
  exact g0 k (by omega)
theorem InterReduces : ladderbacklaw34_InterReduces.Pure := by
  intro next hw
  apply Ev.rounds
  obtain ⟨Ka, ga⟩ := awake_ev
  obtain ⟨b, ⟨K1, h1⟩, hb⟩ := few_ev next 16 (by omega)
  simp only at h1 ga
  have e16 : ((16 : Nat) : Int) = 16 := rfl
  rw [e16] at h1
  cases b with
  | false =>
    refine ⟨max K1 Ka, fun k hk => ?_⟩
    simp only [ladderbacklaw34_InterReduces.f]
    rw [h1 k (by omega)]
    simp only [Option.bind_some, Bool.false_eq_true, if_false]
    rw [ga k (by omega)]
    rfl
  | true =>
    obtain ⟨hn, hf⟩ := hb rfl
    have sm : Small next := small_of (most := 16) (by omega) ⟨hn, hf⟩
    obtain ⟨R, ⟨K2, h2⟩, hRl, hR⟩ := reach0_ev next sm
    obtain ⟨l, hl1, hl2, hl3, ⟨K3, h3⟩, ⟨K4, h4⟩⟩ := reducible_ev next sm
    obtain ⟨pb, ⟨K5, h5⟩, hpb⟩ := plain_ev next sm
    simp only at h2 h3 h4 h5
    have hd : decide (lst (nr next) l ≤ 1) = pb := by
      rw [Bool.eq_iff_iff, decide_eq_true_iff, hl3, hpb]
    rw [hd] at h4
    have hlen : (toI (nr next :: l)).length = l.length + 1 := by simp [toI]
    have hnr := nr_le (next := next)
    -- the end
    have l1 : ∀ r i : Nat, i + r = l.length → Ev (fun k => ladderbacklaw34_InterReduces.l1 k next (toI (nr next :: l)) ((i + 1 : Nat) : Int)) true := by
      intro r
      induction r with
      | zero =>
        intro i hi
        have hw1 : wrap64 (((toI (nr next :: l)).length : Int) - 1) = (l.length : Int) := by rw [hlen, w64_of (by omega) (by omega)]; omega
        have hv : decide (((lst (nr next) l : Nat) : Int) ≤ 1) = pb := by rw [← hd, decide_eq_decide]; omega
        refine ⟨max (max K4 K5) Ka + 1, fun k hk => ?_⟩
        obtain ⟨k, rfl⟩ : ∃ m, k = m + 1 := ⟨k - 1, by omega⟩
        simp only [ladderbacklaw34_InterReduces.l1]
        rw [hw1]
        clear hw1
        rw [if_neg (by omega), h5 k (by omega)]
        simp only [Option.bind_some]
        rw [h4 k (by omega)]
        simp only [Option.bind_some]
        rw [if_pos (by simp), if_pos (by omega), if_pos (by omega), PitInterReduces.rd_nat, lst_get, hv, if_pos (by simp), ga k (by omega)]
        rfl
      | succ r ih =>
        intro i hi
        obtain ⟨K, g⟩ := ih (i + 1) (by omega)
        simp only at g
        have hw1 : wrap64 (((i + 1 : Nat) : Int) - 1) = (i : Int) := by rw [w64_of (by omega) (by omega)]; omega
        have hlt : (toI (nr next :: l)).getD (i + 1) 0 < (toI (nr next :: l)).getD i 0 := by
          have h6 := List.pairwise_iff_getElem.mp hl2 i (i + 1) (by simp; omega) (by simp; omega) (by omega)
          have e1 : (toI (nr next :: l)).getD (i + 1) 0 = (((nr next :: l)[i + 1]'(by simp; omega) : Nat) : Int) := by
            unfold toI
            rw [List.getD_eq_getElem?_getD, List.getElem?_map, List.getElem?_eq_getElem (by simp; omega)]
            rfl
          have e2 : (toI (nr next :: l)).getD i 0 = (((nr next :: l)[i]'(by simp; omega) : Nat) : Int) := by
            unfold toI
            rw [List.getD_eq_getElem?_getD, List.getElem?_map, List.getElem?_eq_getElem (by simp; omega)]
            rfl
          rw [e1, e2]
          omega
        refine ⟨K + 1, fun k hk => ?_⟩
        obtain ⟨k, rfl⟩ : ∃ m, k = m + 1 := ⟨k - 1, by omega⟩
        simp only [ladderbacklaw34_InterReduces.l1]
        rw [hw1]
        clear hw1
        rw [if_pos (by omega), if_pos (by omega), if_pos (by omega), if_pos (by omega), PitInterReduces.rd_nat, PitInterReduces.rd_nat, if_neg (by omega), wnext (i + 1) (by omega)]
        exact g k (by omega)
    obtain ⟨K6, h6⟩ := l1 l.length 0 (by omega)
    simp only [Nat.zero_add] at h6
    have l0 : ∀ r i : Nat, i + r = next.length → Ev (fun k => ladderbacklaw34_InterReduces.l0 k next (toI (nr next :: l)) ((((List.range i).filter fun x => R.getD x false).length : Nat) : Int) R (i : Int)) true := by
      intro r
      induction r with
      | zero =>
        intro i hi
        obtain rfl : i = next.length := by omega
        have e : ((List.range next.length).filter fun x => R.getD x false).length = nr next := by
          refine nr_of ((nodup_range _).filter _) fun x => ?_
          rw [List.mem_filter, List.mem_range, hR]
          exact ⟨fun h => h.2, fun h => ⟨Rch.lt h, h⟩⟩
        refine ⟨K6 + 2, fun k hk => ?_⟩
        obtain ⟨k, rfl⟩ : ∃ m, k = m + 2 := ⟨k - 2, by omega⟩
        have e0 : rd (toI (nr next :: l)) 0 = (nr next : Int) := rfl
        simp only [ladderbacklaw34_InterReduces.l0]
        rw [if_neg (by omega), if_neg (by omega), if_pos (by omega), e, e0]
        have ef : ((nr next : Int) != (nr next : Int)) = false := by simp
        rw [ef]
        simp only [ladderbacklaw34_InterReduces.j1, Bool.false_eq_true, if_false]
        exact h6 k (by omega)
      | succ r ih =>
        intro i hi
        obtain ⟨K, g⟩ := ih (i + 1) (by omega)
        simp only at g
        have hle : ((List.range i).filter fun x => R.getD x false).length ≤ i := by
          refine Nat.le_trans (List.length_filter_le _ _) ?_
          simp
        rw [List.range_succ, List.filter_append, List.length_append] at g
        refine ⟨K + 1, fun k hk => ?_⟩
        obtain ⟨k, rfl⟩ : ∃ m, k = m + 1 := ⟨k - 1, by omega⟩
        simp only [ladderbacklaw34_InterReduces.l0]
        rw [if_pos (by omega), if_pos (by omega), PitInterReduces.rdb_nat, wnext i (by omega)]
        cases hb : R.getD i false with
        | true =>
          rw [List.filter_cons, if_pos hb, List.filter_nil, List.length_singleton] at g
          rw [if_pos rfl, wnext _ (by omega)]
          exact g k (by omega)
        | false =>
          rw [List.filter_cons, if_neg (by rw [hb]; decide), List.filter_nil, List.length_nil] at g
          rw [if_neg (by decide)]
          exact g k (by omega)
    obtain ⟨K7, h7⟩ := l0 next.length 0 (by omega)
    simp only [List.range_zero, List.filter_nil, List.length_nil] at h7
    refine ⟨max (max K1 K2) (max K3 K7), fun k hk => ?_⟩
    simp only [ladderbacklaw34_InterReduces.f]
    rw [h1 k (by omega)]
    simp only [Option.bind_some, if_true]
    rw [h3 k (by omega)]
    simp only [Option.bind_some]
    rw [h2 k (by omega)]
    simp only [Option.bind_some]
    exact h7 k (by omega)
end Go.Proofs.Ytfiffhcpgojkhaa.Pure
