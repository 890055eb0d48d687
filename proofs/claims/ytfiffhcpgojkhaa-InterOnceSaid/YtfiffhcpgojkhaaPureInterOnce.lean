/- InterOnce: each place that is reached is in just one interval, whose other places one enters by its head alone; plain. No condition. -/
import Derived.Test.YtfiffhcpgojkhaaPivInterOnce
import Derived.Test.YtfiffhcpgojkhaaPdfInterOnce
import Derived.Test.YtfiffhcpgojkhaaPddInterOnce
namespace Go.Proofs.Ytfiffhcpgojkhaa.Pure
open Go.Proofs.Ytfiffhcpgojkhaa Go.Proofs.Ytfiffhcpgojkhaa.QInterOnce Go.Proofs.Ytfiffhcpgojkhaa.PdB Go.Proofs.Ytfiffhcpgojkhaa.PddInterOnce Go.Proofs.Ytfiffhcpgojkhaa.PdfInterOnce Go.Proofs.Ytfiffhcpgojkhaa.PikInterOnce Go.Proofs.Ytfiffhcpgojkhaa.PitInterOnce Go.Proofs.Ytfiffhcpgojkhaa.PiuInterOnce Go.Proofs.Ytfiffhcpgojkhaa.PivInterOnce Go.Proofs.Ytfiffhcpgojkhaa.DomF Go.Proofs.Ytfiffhcpgojkhaa.DomT Go.Proofs.Ytfiffhcpgojkhaa.DomP Go.Proofs.Ytfiffhcpgojkhaa.IntT Go.Proofs.Ytfiffhcpgojkhaa.IntU Go.RowKit Go.Proofs.YtfiffhcpgojkhaaW.PrintWords Go.Proofs.YtfiffhcpgojkhaaW.PrintLast Go.Proofs.YtfiffhcpgojkhaaW.PrintMore
set_option linter.unusedSimpArgs false
set_option linter.unusedVariables false
theorem toL_at (L : List (List Nat)) (a : Nat) (h : a < L.length) : rd_L1 (toL L) (a : Int) = toI (L.getD a []) := by simp [rd_L1, toL, toI, h]
theorem toI_at (l : List Nat) (j : Nat) (h : j < l.length) : rd (toI l) (j : Int) = ((l.getD j 0 : Nat) : Int) := by simp [rd, toI, h]
theorem toI_len (l : List Nat) : (toI l).length = l.length := by simp [toI]
theorem toL_len (L : List (List Nat)) : (toL L).length = L.length := by simp [toL]
theorem getD_mem (l : List Nat) (j : Nat) (h : j < l.length) : l.getD j 0 ∈ l := by
  rw [List.getD_eq_getElem?_getD, List.getElem?_eq_getElem h]
  exact List.getElem_mem h
theorem take_succ2 (l : List Nat) (j : Nat) (h : j < l.length) : l.take (j + 1) = l.take j ++ [l.getD j 0] := by
  rw [List.take_add_one, List.getD_eq_getElem?_getD, List.getElem?_eq_getElem h]
  rfl
theorem w_a1 (a : Nat) (h : a ≤ 1000) : wrap64 ((a : Int) + 1) = (a : Int) + 1 := w64_of (by omega) (by omega)
theorem w_a2 (a : Nat) (h : a ≤ 1000) : wrap64 (0 + ((a : Int) + 1)) = (a : Int) + 1 := by rw [w64_of (by omega) (by omega)]; omega
section
variable {next : List (List Int)} {L : List (List Nat)} {of : List Int} {R : List Bool}
/-- What the table holds behind the first a intervals and j places of the next one. -/
structure Iw (next : List (List Int)) (L : List (List Nat)) (a j : Nat) (I : List Int) : Prop where
  len : I.length = next.length
  yes : ∀ i, i < next.length → (Tk (L.take a) i ∨ i ∈ (L.getD a []).take j) → I.getD i 0 = (ix L i : Int) + 1
  no : ∀ i, i < next.length → ¬ (Tk (L.take a) i ∨ i ∈ (L.getD a []).take j) → I.getD i 0 = 0
theorem take_next (p : Prt next L of) {a : Nat} (ha : a < L.length) (i : Nat) : Tk (L.take (a + 1)) i ↔ Tk (L.take a) i ∨ i ∈ L.getD a [] := by
  have e : L.take (a + 1) = L.take a ++ [L.getD a []] := by
    rw [List.take_add_one, List.getElem?_eq_getElem ha]
    simp [List.getD_eq_getElem?_getD, ha]
  rw [e, Tk_snoc]
theorem l3_ev (sm : Small next) (p : Prt next L of) (h0 : 0 < next.length) (hRl : R.length = next.length) (hR : ∀ v, R.getD v false = true ↔ Rch next v) {I : List Int} (hI : Iw next L L.length 0 I) : ∀ r i : Nat, i + r = next.length →
    Ev (fun k => ladderbacklaw34_InterOnce.l3 k next R I ((((List.range' i r).filter fun x => R.getD x false).length : Nat) : Int) (i : Int)) true := by
  obtain ⟨Ka, ga⟩ := awake_ev
  simp only at ga
  have hn := sm.1
  have hIl := hI.len
  intro r
  induction r with
  | zero =>
    intro i hi
    refine ⟨Ka + 1, fun k hk => ?_⟩
    obtain ⟨k, rfl⟩ : ∃ m, k = m + 1 := ⟨k - 1, by omega⟩
    simp only [ladderbacklaw34_InterOnce.l3]
    rw [if_neg (by omega), if_pos (by simp), ga k (by omega)]
    rfl
  | succ r ih =>
    intro i hi
    obtain ⟨K, g⟩ := ih (i + 1) (by omega)
    simp only at g
    have hle : ((List.range' (i + 1) r).filter fun x => R.getD x false).length ≤ r := by
      refine Nat.le_trans (List.length_filter_le _ _) ?_
      simp
    have htk : (Tk (L.take L.length) i ∨ i ∈ (L.getD L.length []).take 0) ↔ Rch next i := by
      rw [List.take_length, List.take_zero, p.cover h0]
      exact ⟨fun h => h.elim id (fun h => by cases h), .inl⟩
    refine ⟨K + 1, fun k hk => ?_⟩
    obtain ⟨k, rfl⟩ : ∃ m, k = m + 1 := ⟨k - 1, by omega⟩
    simp only [ladderbacklaw34_InterOnce.l3]
    rw [if_pos (by omega), if_pos (by omega), if_pos (by omega), if_pos (by omega), PitInterOnce.rdb_nat, PitInterOnce.rd_nat, List.range'_succ]
    cases hb : R.getD i false with
    | true =>
      have hRi := (hR i).mp hb
      rw [hI.yes i (by omega) (htk.mpr hRi), decide_eq_true (by omega), if_neg (by decide), if_pos rfl, List.filter_cons, if_pos hb, List.length_cons, w64_of (by omega) (by omega), wnext i (by omega)]
      have := g k (by omega)
      rw [show (((((List.range' (i + 1) r).filter fun x => R.getD x false).length + 1 : Nat)) : Int) - 1 = ((((List.range' (i + 1) r).filter fun x => R.getD x false).length : Nat) : Int) by omega]
      exact this
    | false =>
      have hRi : ¬ Rch next i := fun h => by rw [(hR i).mpr h] at hb; cases hb
      rw [hI.no i (by omega) (fun h => hRi (htk.mp h)), decide_eq_false (by omega), if_neg (by decide), if_neg (by decide), List.filter_cons, if_neg (by rw [hb]; decide), wnext i (by omega)]
      exact g k (by omega)
theorem l2_ev (sm : Small next) (p : Prt next L of) (h0 : 0 < next.length) (hRl : R.length = next.length) (hR : ∀ v, R.getD v false = true ↔ Rch next v) {I : List Int} (hI : Iw next L L.length 0 I) : ∀ r a : Nat, a + r = L.length →
    Ev (fun k => ladderbacklaw34_InterOnce.l2 k next (toL L) R I ((((L.take a).flatten.length : Nat)) : Int) (a : Int)) true := by
  have hn := sm.1
  have hfl := nr_of (p.flat h0).1 (p.flat h0).2
  have hnr := nr_le (next := next)
  have hll := p.len_le h0
  have htot : ∀ a, (L.take a).flatten.length ≤ L.flatten.length := by
    intro a
    have e : L.flatten = (L.take a).flatten ++ (L.drop a).flatten := by rw [← List.flatten_append, List.take_append_drop]
    rw [e, List.length_append]
    omega
  intro r
  induction r with
  | zero =>
    intro a ha
    obtain rfl : a = L.length := by omega
    obtain ⟨K, g⟩ := l3_ev sm p h0 hRl hR hI next.length 0 (by omega)
    simp only at g
    have e : ((List.range' 0 next.length).filter fun x => R.getD x false).length = L.flatten.length := by
      rw [hfl]
      refine nr_of ?_ fun x => ?_
      · exact (List.nodup_range' (step := 1) (by omega)).filter _
      · rw [List.mem_filter, List.mem_range'_1, hR]
        exact ⟨fun h => h.2, fun h => ⟨⟨Nat.zero_le _, by have := Rch.lt h; omega⟩, h⟩⟩
    rw [e] at g
    refine ⟨K + 1, fun k hk => ?_⟩
    obtain ⟨k, rfl⟩ : ∃ m, k = m + 1 := ⟨k - 1, by omega⟩
    simp only [ladderbacklaw34_InterOnce.l2]
    rw [toL_len, if_neg (by omega), List.take_length]
    exact g k (by omega)
  | succ r ih =>
    intro a ha
    obtain ⟨K, g⟩ := ih (a + 1) (by omega)
    simp only at g
    have h1 := htot (a + 1)
    have e : L.take (a + 1) = L.take a ++ [L.getD a []] := by
      rw [List.take_add_one, List.getElem?_eq_getElem (by omega)]
      simp [List.getD_eq_getElem?_getD, show a < L.length by omega]
    rw [e, List.flatten_append, List.length_append, List.flatten_cons, List.flatten_nil, List.append_nil] at g h1
    refine ⟨K + 1, fun k hk => ?_⟩
    obtain ⟨k, rfl⟩ : ∃ m, k = m + 1 := ⟨k - 1, by omega⟩
    simp only [ladderbacklaw34_InterOnce.l2]
    rw [toL_len, if_pos (by omega), if_pos (by omega), toL_at L a (by omega), toI_len, w64_of (by omega) (by omega), wnext a (by omega)]
    have := g k (by omega)
    rw [show (((L.take a).flatten.length : Nat) : Int) + (((L.getD a []).length : Nat) : Int) = (((L.take a).flatten.length + (L.getD a []).length : Nat) : Int) by omega]
    exact this
theorem l1_ev (sm : Small next) (p : Prt next L of) (h0 : 0 < next.length) {a : Nat} (ha : a < L.length) (hgo : ∀ I, Iw next L (a + 1) 0 I → Ev (fun k => ladderbacklaw34_InterOnce.l0 k next (toL L) R I (((a + 1 : Nat)) : Int)) true) : ∀ (r j : Nat) (I : List Int), j + r = (L.getD a []).length → Iw next L a j I →
    Ev (fun k => ladderbacklaw34_InterOnce.l1 k next (toL L) R I (a : Int) (j : Int)) true := by
  have hn := sm.1
  have hnr := nr_le (next := next)
  have hll := p.len_le h0
  have hal : (L.getD a []).length ≤ next.length := by
    have h1 := flat_len
    have h2 : (L.getD a []).Nodup := by rw [p.st.iv a ha]; exact ivl_nodup
    exact nodup_len next.length _ h2 fun v hv => Rch.lt (p.st.memR ha hv)
  obtain ⟨rk, iv⟩ := p.st.ivs (graph next h0) (fun x hx => Rch.lt hx) p.ne p.no
  intro r
  induction r with
  | zero =>
    intro j I hj hI
    obtain ⟨K, g⟩ := hgo I ⟨hI.len, fun i hi h => hI.yes i hi (by
        rw [List.take_zero, take_next p ha] at h
        rw [List.take_of_length_le (l := L.getD a []) (by omega)]
        exact h.elim id (fun h => by cases h)), fun i hi h => hI.no i hi (fun h2 => h (.inl (by
        rw [List.take_of_length_le (l := L.getD a []) (by omega)] at h2
        exact (take_next p ha i).mpr h2)))⟩
    simp only at g
    refine ⟨K + 1, fun k hk => ?_⟩
    obtain ⟨k, rfl⟩ : ∃ m, k = m + 1 := ⟨k - 1, by omega⟩
    simp only [ladderbacklaw34_InterOnce.l1]
    rw [if_pos (by omega), toL_len, if_pos (by omega), toL_at L a ha, toI_len, if_neg (by omega), wnext a (by omega)]
    exact g k (by omega)
  | succ r ih =>
    intro j I hj hI
    have hjl : j < (L.getD a []).length := by omega
    obtain ⟨v, hv⟩ : ∃ v, v = (L.getD a []).getD j 0 := ⟨_, rfl⟩
    have hvm : v ∈ L.getD a [] := by rw [hv]; exact getD_mem _ _ hjl
    have hvR := p.st.memR ha hvm
    have hvl := Rch.lt hvR
    have hix := p.st.ix_eq ha hvm
    have hIl := hI.len
    have hnd : (L.getD a []).Nodup := by rw [p.st.iv a ha]; exact ivl_nodup
    have htj : (L.getD a []).take (j + 1) = (L.getD a []).take j ++ [v] := by rw [hv]; exact take_succ2 _ _ hjl
    have hvn : ¬ (Tk (L.take a) v ∨ v ∈ (L.getD a []).take j) := by
      rintro (h | h)
      · have := ((Tk_take (by omega) p.st).mp h).2
        omega
      · have h2 : ((L.getD a []).take (j + 1)).Nodup := hnd.sublist (List.take_sublist _ _)
        rw [htj, List.nodup_append] at h2
        exact h2.2.2 v h v (by simp) rfl
    have hIv := hI.no v hvl hvn
    have hI2 : Iw next L a (j + 1) (I.set v ((a : Int) + 1)) := by
      refine ⟨by rw [List.length_set]; exact hIl, fun i hi h => ?_, fun i hi h => ?_⟩
      · rw [getI_set _ _ _ _ (by omega)]
        by_cases e : i = v
        · rw [if_pos e, e, hix]
        · rw [if_neg e]
          refine hI.yes i hi ?_
          rw [htj, List.mem_append, List.mem_singleton] at h
          rcases h with h | h | h
          · exact .inl h
          · exact .inr h
          · exact absurd h e
      · rw [htj, List.mem_append, List.mem_singleton] at h
        rw [getI_set _ _ _ _ (by omega), if_neg (fun e => h (.inr (.inr e)))]
        exact hI.no i hi fun h2 => h (h2.elim .inl (fun h3 => .inr (.inl h3)))
    obtain ⟨K, g⟩ := ih (j + 1) _ (by omega) hI2
    simp only at g
    have hdom : ∃ Kd, ∀ k, Kd ≤ k → (0 < j → ladderbackref31_Dominates.f k next (rd (toI (L.getD a [])) 0) (v : Int) = some true) := by
      obtain ⟨d, ⟨Kd, gd⟩, hd⟩ := dominates_ev next sm (hdl L a : Int) (v : Int)
      simp only at gd
      have e0 : rd (toI (L.getD a [])) 0 = (hdl L a : Int) := by
        have := toI_at (L.getD a []) 0 (by omega)
        rw [show ((0 : Nat) : Int) = 0 from rfl] at this
        rw [this]
        unfold hdl
        cases L.getD a [] <;> simp
      have hb := iv.b0 (graph next h0) hvR
      rw [hix] at hb
      have hdt : d = true := hd.mpr ⟨hdl L a, v, rfl, rfl, Rch.lt (p.st.hR a ha), hvR, hb⟩
      rw [hdt] at gd
      exact ⟨Kd, fun k hk _ => by rw [e0]; exact gd k hk⟩
    obtain ⟨Kd, gd⟩ := hdom
    refine ⟨max K Kd + 2, fun k hk => ?_⟩
    obtain ⟨k, rfl⟩ : ∃ m, k = m + 2 := ⟨k - 2, by omega⟩
    simp only [ladderbacklaw34_InterOnce.l1]
    rw [if_pos (by omega), toL_len, if_pos (by omega), toL_at L a ha, toI_len, if_pos (by omega), if_pos (by omega), toI_at _ j hjl, ← hv, if_neg (by omega), decide_eq_false (by omega)]
    simp only [ladderbacklaw34_InterOnce.j2]
    rw [if_neg (by decide), if_pos (by omega), toL_len, if_pos (by omega), if_pos (by omega), toL_at L a ha, toI_len, if_pos (by omega), toI_at _ j hjl, ← hv, if_pos (by omega), if_pos (by omega), PitInterOnce.rd_nat, hIv, w_a1 a (by omega), w_a2 a (by omega), Int.toNat_natCast]
    simp only [Option.bind_some]
    by_cases cj : 0 < j
    · rw [if_pos (by omega), if_pos (by omega), gd k (by omega) cj]
      simp only [Option.bind_some]
      rw [if_pos trivial, wnext j (by omega)]
      exact g (k + 0) (by omega)
    · rw [if_neg (by omega), wnext j (by omega)]
      exact g (k + 0) (by omega)
theorem l0_ev (sm : Small next) (p : Prt next L of) (h0 : 0 < next.length) (hRl : R.length = next.length) (hR : ∀ v, R.getD v false = true ↔ Rch next v) : ∀ (r a : Nat) (I : List Int), a + r = L.length → Iw next L a 0 I →
    Ev (fun k => ladderbacklaw34_InterOnce.l0 k next (toL L) R I (a : Int)) true := by
  intro r
  induction r with
  | zero =>
    intro a I ha hI
    obtain rfl : a = L.length := by omega
    obtain ⟨K, g⟩ := l2_ev sm p h0 hRl hR hI L.length 0 (by omega)
    simp only [List.take_zero, List.flatten_nil, List.length_nil] at g
    refine ⟨K + 1, fun k hk => ?_⟩
    obtain ⟨k, rfl⟩ : ∃ m, k = m + 1 := ⟨k - 1, by omega⟩
    simp only [ladderbacklaw34_InterOnce.l0]
    rw [toL_len, if_neg (by omega)]
    exact g k (by omega)
  | succ r ih =>
    intro a I ha hI
    obtain ⟨K, g⟩ := l1_ev (R := R) sm p h0 (a := a) (by omega) (fun I hI => ih (a + 1) I (by omega) hI) (L.getD a []).length 0 I (by omega) hI
    simp only at g
    refine ⟨K + 1, fun k hk => ?_⟩
    obtain ⟨k, rfl⟩ : ∃ m, k = m + 1 := ⟨k - 1, by omega⟩
    simp only [ladderbacklaw34_InterOnce.l0]
    rw [toL_len, if_pos (by omega)]
    exact g k (by omega)
end
theorem InterOnce : ladderbacklaw34_InterOnce.Pure := by
  intro next hw
  apply Ev.rounds
  obtain ⟨Ka, ga⟩ := awake_ev
  obtain ⟨b, ⟨K1, h1⟩, hb⟩ := few_ev next 16 (by omega)
  simp only at h1 ga
  have e16 : ((16 : Nat) : Int) = 16 := rfl
  rw [e16] at h1
  cases b with
  | false =>
    refine ⟨max K1 Ka, fun k hk => ?_⟩
    simp only [ladderbacklaw34_InterOnce.f]
    rw [h1 k (by omega)]
    simp only [Option.bind_some, Bool.false_eq_true, if_false]
    rw [ga k (by omega)]
    rfl
  | true =>
    obtain ⟨hn, hf⟩ := hb rfl
    have sm : Small next := small_of (most := 16) (by omega) ⟨hn, hf⟩
    obtain ⟨R, ⟨K2, h2⟩, hRl, hR⟩ := reach0_ev next sm
    simp only at h2
    by_cases h0 : 0 < next.length
    · obtain ⟨L, of, D, p, _, _, ⟨K3, h3⟩, _⟩ := derive_ev sm h0
      simp only at h3
      have hI0 : Iw next L 0 0 (List.replicate next.length 0) := by
        refine ⟨by simp, fun i hi h => ?_, fun i hi _ => by simp [List.getD_eq_getElem?_getD, hi]⟩
        exfalso
        rcases h with h | h
        · exact Tk_nil h
        · rw [List.take_zero] at h; cases h
      obtain ⟨K4, h4⟩ := l0_ev sm p h0 hRl hR L.length 0 (List.replicate next.length 0) (by omega) hI0
      simp only at h4
      refine ⟨max (max K1 K2) (max K3 K4), fun k hk => ?_⟩
      simp only [ladderbacklaw34_InterOnce.f]
      rw [h1 k (by omega)]
      simp only [Option.bind_some, if_true]
      rw [h3 k (by omega)]
      simp only [Option.bind_some]
      rw [h2 k (by omega)]
      simp only [Option.bind_some]
      rw [if_pos (by omega), if_pos (by omega), Int.toNat_natCast]
      exact h4 k (by omega)
    · obtain rfl : next = [] := List.eq_nil_of_length_eq_zero (by omega)
      obtain ⟨kn, pd, rc, kw, ⟨K3, h3⟩⟩ := know_ev [] sm
      simp only at h3
      have e1 : kn = [] := List.eq_nil_of_length_eq_zero kw.kl
      have e2 : R = [] := List.eq_nil_of_length_eq_zero hRl
      refine ⟨max (max K1 K2) (max K3 Ka) + 5, fun k hk => ?_⟩
      obtain ⟨k, rfl⟩ : ∃ m, k = m + 5 := ⟨k - 5, by omega⟩
      simp only [ladderbacklaw34_InterOnce.f]
      rw [h1 (k + 5) (by omega)]
      simp only [Option.bind_some, if_true]
      have hp : inter_Parts.f (k + 5) [] = some [] := by
        simp only [inter_Parts.f]
        rw [h3 (k + 5) (by omega), e1]
        simp [inter_known_parts.f, inter_known_parts.l0, inter_known_parts.l1, inter_known_parts.j2]
      rw [hp]
      simp only [Option.bind_some]
      rw [h2 (k + 5) (by omega), e2]
      simp [ladderbacklaw34_InterOnce.l0, ladderbacklaw34_InterOnce.l2, ladderbacklaw34_InterOnce.l3, ga (k + 2) (by omega)]
end Go.Proofs.Ytfiffhcpgojkhaa.Pure
