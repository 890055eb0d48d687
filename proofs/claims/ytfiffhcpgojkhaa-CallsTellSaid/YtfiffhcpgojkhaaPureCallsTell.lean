/- CallsTell: whom units call, in which order they stand, how deep they call; plain. No condition. -/
import Derived.Test.YtfiffhcpgojkhaaPcnCallsTell
import Derived.Test.YtfiffhcpgojkhaaPcoCallsTell
namespace Go.Proofs.Ytfiffhcpgojkhaa.Pure
open Go.Proofs.Ytfiffhcpgojkhaa Go.Proofs.Ytfiffhcpgojkhaa.QCallsTell Go.Proofs.Ytfiffhcpgojkhaa.PdC Go.Proofs.Ytfiffhcpgojkhaa.PcnCallsTell Go.Proofs.Ytfiffhcpgojkhaa.PcoCallsTell Go.RowKit Go.Proofs.YtfiffhcpgojkhaaW.PrintWords Go.Proofs.YtfiffhcpgojkhaaW.PrintLast Go.Proofs.YtfiffhcpgojkhaaW.PrintMore
set_option linter.unusedSimpArgs false
set_option linter.unusedVariables false
theorem refof_ev (l : List S69) (ok : Ok l) (u : Nat) (hu : u < l.length) : Ev (fun k => ladderbackref21_Of.f k l (u : Int)) (row l u) := by
  have hl := ok.1
  have key : ∀ r i : Nat, i + r = l.length → Ev (fun k => ladderbackref21_Of.l0 k l (u : Int) (((List.range i).filter fun t => edge l u t).map fun t : Nat => (t : Int)) (i : Int)) (row l u) := by
    intro r
    induction r with
    | zero =>
      intro i hi
      obtain rfl : i = l.length := by omega
      refine ⟨2, fun k hk => ?_⟩
      obtain ⟨k, rfl⟩ : ∃ m, k = m + 2 := ⟨k - 2, by omega⟩
      simp only [ladderbackref21_Of.l0]
      rw [if_neg (by omega)]
      simp only [ladderbackref21_Of.j1, Bool.false_eq_true, if_false]
      rfl
    | succ r ih =>
      intro i hi
      obtain ⟨K1, g1⟩ := ih (i + 1) (by omega)
      obtain ⟨K2, g2⟩ := calls_ev l ok u i hu
      simp only at g1 g2
      refine ⟨max K1 K2 + 2, fun k hk => ?_⟩
      obtain ⟨k, rfl⟩ : ∃ m, k = m + 2 := ⟨k - 2, by omega⟩
      have hg := g1 k (by omega)
      rw [List.range_succ, List.filter_append, List.map_append] at hg
      have hlen : (((List.range i).filter fun t => edge l u t).map fun t : Nat => (t : Int)).length ≤ i := by
        rw [List.length_map]
        refine Nat.le_trans (List.length_filter_le _ _) ?_
        simp
      simp only [ladderbackref21_Of.l0]
      rw [if_pos (by omega), if_pos (by omega), decide_eq_true (by omega)]
      simp only [ladderbackref21_Of.j1, if_true]
      rw [g2 k (by omega)]
      simp only [Option.bind_some]
      rw [wnext i (by omega)]
      by_cases hm : edge l u i = true
      · rw [if_pos hm, if_pos (by omega)]
        rw [List.filter_cons_of_pos (by simpa using hm), List.filter_nil] at hg
        exact hg
      · rw [if_neg hm]
        rw [List.filter_cons_of_neg (by simpa using hm), List.filter_nil, List.map_nil, List.append_nil] at hg
        exact hg
  obtain ⟨K, g⟩ := key l.length 0 (by omega)
  simp only [List.range_zero, List.filter_nil, List.map_nil] at g
  exact ⟨K, g⟩
theorem refof_out (l : List S69) (x : Int) (h : ¬ (0 ≤ x ∧ x < (l.length : Int))) : Ev (fun k => ladderbackref21_Of.f k l x) [] := by
  refine ⟨2, fun k hk => ?_⟩
  obtain ⟨k, rfl⟩ : ∃ m, k = m + 2 := ⟨k - 2, by omega⟩
  simp only [ladderbackref21_Of.f, ladderbackref21_Of.l0]
  by_cases h0 : (0 : Int) < (l.length : Int)
  · rw [if_pos h0]
    by_cases h1 : x ≥ 0
    · rw [if_pos h1, decide_eq_false (by omega)]; rfl
    · rw [if_neg h1]; rfl
  · rw [if_neg h0]; rfl
def Placed (l : List S69) (P : List Bool) (out : List Int) : Prop := P.length = l.length ∧ ∀ t : Nat, t < l.length → rdOf false P (t : Int) = decide ((t : Int) ∈ out)
def lets (l : List S69) (P : List Bool) (i t r : Nat) : Bool := (List.range' t r).all fun t => !edge l i t || rdOf false P (t : Int)
theorem l2_ev (l : List S69) (ok : Ok l) (P : List Bool) (hP : P.length = l.length) (out : List Int) (i : Nat) (hi : i < l.length) (best : Int) (res : List Int × Bool) : ∀ (r t : Nat) (fl : Bool), t + r = l.length →
    Ev (fun k => ladderbackref21_Order.l1 k l P out (if (fl && lets l P i t r) = true then (i : Int) else best) (wrap64 ((i : Int) - 1))) res → Ev (fun k => ladderbackref21_Order.l2 k l P out best (i : Int) fl (t : Int)) res := by
  have hl := ok.1
  intro r
  induction r with
  | zero =>
    intro t fl ht h
    obtain ⟨K, g⟩ := h
    refine ⟨K + 1, fun k hk => ?_⟩
    obtain ⟨k, rfl⟩ : ∃ m, k = m + 1 := ⟨k - 1, by omega⟩
    have hg := g k (by omega)
    simp only [ladderbackref21_Order.l2]
    rw [if_neg (by omega)]
    simp only [lets, List.range'_zero, List.all_nil, Bool.and_true] at hg
    by_cases c : fl = true
    · rw [if_pos c] at hg ⊢; exact hg
    · rw [if_neg c] at hg ⊢; exact hg
  | succ r ih =>
    intro t fl ht h
    have e : lets l P i t (r + 1) = ((!edge l i t || rdOf false P (t : Int)) && lets l P i (t + 1) r) := by
      unfold lets
      rw [List.range'_succ, List.all_cons]
    rw [e] at h
    obtain ⟨K1, g1⟩ := calls_ev l ok i t hi
    simp only at g1
    obtain ⟨K2, g2⟩ := ih (t + 1) (fl && (!edge l i t || rdOf false P (t : Int))) (by omega) (by rw [Bool.and_assoc]; exact h)
    simp only at g2
    refine ⟨max K1 K2 + 1, fun k hk => ?_⟩
    obtain ⟨k, rfl⟩ : ∃ m, k = m + 1 := ⟨k - 1, by omega⟩
    have hg := g2 k (by omega)
    simp only [ladderbackref21_Order.l2]
    rw [if_pos (by omega), g1 k (by omega)]
    simp only [Option.bind_some]
    rw [wnext t (by omega)]
    by_cases c : edge l i t = true
    · rw [if_pos c, if_pos (by omega), if_pos (by omega)]
      by_cases c2 : rdOf false P (t : Int) = true
      · rw [if_pos c2]
        rw [c2] at hg
        simp only [Bool.or_true, Bool.and_true] at hg
        exact hg
      · rw [if_neg c2]
        have c2' : rdOf false P (t : Int) = false := by simpa using c2
        rw [c2', c] at hg
        simp only [Bool.not_true, Bool.or_false, Bool.and_false] at hg
        exact hg
    · rw [if_neg c]
      have c' : edge l i t = false := by simpa using c
      rw [c'] at hg
      simp only [Bool.not_false, Bool.true_or, Bool.and_true] at hg
      exact hg
theorem lets_iff (l : List S69) (P : List Bool) (out : List Int) (hP : Placed l P out) (i : Nat) (hi : i < l.length) : ((!(rdOf false P (i : Int))) && lets l P i 0 l.length) = true ↔ rdy l out i := by
  unfold rdy lets
  rw [Bool.and_eq_true, hP.2 i hi, List.all_eq_true]
  refine and_congr (by simp) ⟨fun h t ht he => ?_, fun h t ht => ?_⟩
  · have h1 := h t (List.mem_range'_1.mpr ⟨by omega, by omega⟩)
    rw [he, hP.2 t ht] at h1
    simpa using h1
  · have ht' := List.mem_range'_1.mp ht
    by_cases he : edge l i t = true
    · rw [hP.2 t (by omega), decide_eq_true (h t (by omega) he), Bool.or_true]
    · have : edge l i t = false := by simpa using he
      rw [this]; rfl
theorem l1_ev (l : List S69) (ok : Ok l) (P : List Bool) (out : List Int) (hP : Placed l P out) (res : List Int × Bool) (h0 : Ev (fun k => ladderbackref21_Order.l1 k l P out (pk l out) (-1)) res) : ∀ (i r : Nat), i + r = l.length →
    Ev (fun k => ladderbackref21_Order.l1 k l P out (pickF out (rws l i r) i) ((i : Int) - 1)) res := by
  have hl := ok.1
  intro i
  induction i with
  | zero =>
    intro r hr
    obtain rfl : r = l.length := by omega
    exact h0
  | succ i ih =>
    intro r hr
    have h1 := ih (r + 1) (by omega)
    rw [pick_succ] at h1
    obtain ⟨K, g⟩ := l2_ev l ok P hP.1 out i (by omega) (pickF out (rws l (i + 1) r) (i + 1)) res l.length 0 (!(rdOf false P (i : Int))) (by omega) (by
      rw [w64_of (by omega) (by omega)]
      have e : (if ((!(rdOf false P (i : Int))) && lets l P i 0 l.length) = true then (i : Int) else pickF out (rws l (i + 1) r) (i + 1)) = if rdy l out i then (i : Int) else pickF out (rws l (i + 1) r) (i + 1) := by
        by_cases c : rdy l out i
        · rw [if_pos c, if_pos ((lets_iff l P out hP i (by omega)).mpr c)]
        · rw [if_neg c, if_neg (fun h => c ((lets_iff l P out hP i (by omega)).mp h))]
      rw [e]
      exact h1)
    simp only at g
    refine ⟨K + 1, fun k hk => ?_⟩
    obtain ⟨k, rfl⟩ : ∃ m, k = m + 1 := ⟨k - 1, by omega⟩
    have hPl := hP.1
    rw [show ((i + 1 : Nat) : Int) - 1 = (i : Int) by omega]
    simp only [ladderbackref21_Order.l1]
    rw [if_pos (by omega), if_pos (by omega), if_pos (by omega)]
    exact g k (by omega)
theorem placed_put (l : List S69) (P : List Bool) (out : List Int) (hP : Placed l P out) (u : Nat) (hu : u < l.length) : Placed l (P.set u true) (out ++ [(u : Int)]) := by
  refine ⟨by rw [List.length_set]; exact hP.1, fun t ht => ?_⟩
  have h := hP.2 t ht
  have hPl := hP.1
  have e : rdOf false (P.set u true) (t : Int) = if u = t then true else rdOf false P (t : Int) := by
    unfold rdOf
    rw [List.getD_eq_getElem?_getD, List.getD_eq_getElem?_getD, Int.toNat_natCast, List.getElem?_set]
    by_cases c : u = t
    · rw [if_pos c, if_pos c, if_pos (by omega)]; rfl
    · rw [if_neg c, if_neg c]
  rw [e, h]
  by_cases c : u = t
  · rw [if_pos c]; simp [c]
  · rw [if_neg c]
    have : ¬ (t : Int) = (u : Int) := by omega
    simp [this]
theorem l0_ev (l : List S69) (ok : Ok l) : ∀ (r : Nat) (out : List Int) (P : List Bool), out.length + r = l.length → Placed l P out → Ev (fun k => ladderbackref21_Order.l0 k l P out) (ordS l r out) := by
  have hl := ok.1
  intro r
  induction r with
  | zero =>
    intro out P ho hP
    refine ⟨1, fun k hk => ?_⟩
    obtain ⟨k, rfl⟩ : ∃ m, k = m + 1 := ⟨k - 1, by omega⟩
    simp only [ladderbackref21_Order.l0, ordS]
    rw [if_neg (by omega)]
  | succ r ih =>
    intro out P ho hP
    have h0 : Ev (fun k => ladderbackref21_Order.l1 k l P out (pk l out) (-1)) (ordS l (r + 1) out) := by
      simp only [ordS]
      rcases pk_spec l out with ⟨e, _⟩ | ⟨u, e, hu, _⟩
      · refine ⟨1, fun k hk => ?_⟩
        obtain ⟨k, rfl⟩ : ∃ m, k = m + 1 := ⟨k - 1, by omega⟩
        simp only [ladderbackref21_Order.l1]
        rw [if_neg (by omega), if_pos (by omega), if_pos (by omega)]
      · obtain ⟨K, g⟩ := ih (out ++ [pk l out]) (P.set u true) (by simp; omega) (by rw [e]; exact placed_put l P out hP u hu)
        simp only at g
        refine ⟨K + 1, fun k hk => ?_⟩
        obtain ⟨k, rfl⟩ : ∃ m, k = m + 1 := ⟨k - 1, by omega⟩
        have hPl := hP.1
        have hg := g k (by omega)
        rw [show (if pk l out < 0 then (([] : List Int), false) else ordS l r (out ++ [pk l out])) = ordS l r (out ++ [pk l out]) from if_neg (by omega)]
        simp only [ladderbackref21_Order.l1]
        rw [if_neg (by omega), if_neg (by omega), if_pos (by omega), if_pos (by omega), if_pos (by omega)]
        rw [e] at hg ⊢
        exact hg
    obtain ⟨K, g⟩ := l1_ev l ok P out hP _ h0 l.length 0 (by omega)
    rw [pick_zero] at g
    simp only at g
    refine ⟨K + 1, fun k hk => ?_⟩
    obtain ⟨k, rfl⟩ : ∃ m, k = m + 1 := ⟨k - 1, by omega⟩
    simp only [ladderbackref21_Order.l0]
    rw [if_pos (by omega), w64_of (by omega) (by omega)]
    exact g k (by omega)
theorem reforder_ev (l : List S69) (ok : Ok l) : Ev (fun k => ladderbackref21_Order.f k l) (ordS l l.length []) := by
  have hl := ok.1
  obtain ⟨K, g⟩ := l0_ev l ok l.length [] (List.replicate l.length false) (by simp) ⟨by simp, fun t ht => by simp [rdOf, ht]⟩
  simp only at g
  refine ⟨K, fun k hk => ?_⟩
  simp only [ladderbackref21_Order.f]
  rw [if_pos (by omega), if_pos (by omega), Int.toNat_natCast]
  exact g k hk
/-- Depths. -/
def dst (u : Nat) (d : List Int) (x : Int) : List Int := d.set u (mx (rd d (u : Int)) (wrap64 (1 + rd d x)))
theorem dst_len (u : Nat) (d : List Int) (x : Int) : (dst u d x).length = d.length := by unfold dst; rw [List.length_set]
theorem dsts_len (u : Nat) (L : List Int) : ∀ d : List Int, (L.foldl (dst u) d).length = d.length := by
  induction L with
  | nil => intro d; rfl
  | cons x L ih => intro d; rw [List.foldl_cons, ih, dst_len]
def dun (l : List S69) (d : List Int) (x : Int) : List Int := (row l x.toNat).foldl (dst x.toNat) (d.set x.toNat 1)
theorem dun_len (l : List S69) (d : List Int) (x : Int) : (dun l d x).length = d.length := by unfold dun; rw [dsts_len, List.length_set]
theorem duns_len (l : List S69) (L : List Int) : ∀ d : List Int, (L.foldl (dun l) d).length = d.length := by
  induction L with
  | nil => intro d; rfl
  | cons x L ih => intro d; rw [List.foldl_cons, ih, dun_len]
theorem d1_ev (l : List S69) (ok : Ok l) (ord : List Int) (n : Int) (i : Int) (u : Nat) (hu : u < l.length) (res : List Int) : ∀ (r j : Nat) (d : List Int), j + r = (row l u).length → d.length = l.length →
    Ev (fun k => calls_Depth.l0 k l (((row l u).drop j).foldl (dst u) d) ord n (wrap64 (i + 1))) res → Ev (fun k => calls_Depth.l1 k l d (u : Int) ord n i (row l u) ((row l u).length : Int) (j : Int)) res := by
  have hl := ok.1
  have hr := row_len l u
  intro r
  induction r with
  | zero =>
    intro j d hj hd h
    obtain ⟨K, g⟩ := h
    rw [List.drop_eq_nil_of_le (by omega)] at g
    simp only [List.foldl_nil] at g
    refine ⟨K + 1, fun k hk => ?_⟩
    obtain ⟨k, rfl⟩ : ∃ m, k = m + 1 := ⟨k - 1, by omega⟩
    simp only [calls_Depth.l1]
    rw [if_neg (by omega)]
    exact g k (by omega)
  | succ r ih =>
    intro j d hj hd h
    rw [drop_rd _ j (by omega), List.foldl_cons] at h
    obtain ⟨K, g⟩ := ih (j + 1) (dst u d (rd (row l u) (j : Int))) (by omega) (by rw [dst_len]; exact hd) h
    simp only at g
    obtain ⟨t, ht, _, e⟩ := (row_mem l u _).mp (rd_mem (row l u) j (by omega))
    refine ⟨K + 1, fun k hk => ?_⟩
    obtain ⟨k, rfl⟩ : ∃ m, k = m + 1 := ⟨k - 1, by omega⟩
    simp only [calls_Depth.l1]
    rw [if_pos (by omega), if_pos (by omega), if_pos (by omega), if_pos (by omega), if_pos (by omega), if_pos (by omega), if_pos (by omega), wnext j (by omega), Int.toNat_natCast]
    exact g k (by omega)
theorem d0_ev (l : List S69) (ok : Ok l) (ord : List Int) (ho : ∀ x ∈ ord, 0 ≤ x ∧ x < (l.length : Int)) (hol : ord.length ≤ l.length) : ∀ (r i : Nat) (d : List Int), i + r = ord.length → d.length = l.length →
    Ev (fun k => calls_Depth.l0 k l d ord (ord.length : Int) (i : Int)) ((ord.drop i).foldl (dun l) d) := by
  have hl := ok.1
  intro r
  induction r with
  | zero =>
    intro i d hi hd
    rw [List.drop_eq_nil_of_le (by omega)]
    refine ⟨1, fun k hk => ?_⟩
    obtain ⟨k, rfl⟩ : ∃ m, k = m + 1 := ⟨k - 1, by omega⟩
    simp only [calls_Depth.l0]
    rw [if_neg (by omega)]
    rfl
  | succ r ih =>
    intro i d hi hd
    have hx := ho _ (rd_mem ord i (by omega))
    obtain ⟨u, hu⟩ : ∃ u : Nat, rd ord (i : Int) = (u : Int) := ⟨(rd ord (i : Int)).toNat, by omega⟩
    rw [hu] at hx
    rw [drop_rd _ i (by omega), List.foldl_cons, hu]
    have h1 := ih (i + 1) (dun l d (u : Int)) (by omega) (by rw [dun_len]; exact hd)
    obtain ⟨K1, g1⟩ := of_ev l ok u (by omega)
    obtain ⟨K2, g2⟩ := d1_ev l ok ord (ord.length : Int) (i : Int) u (by omega) _ (row l u).length 0 (d.set u 1) (by omega) (by rw [List.length_set]; exact hd) (by
      rw [wnext i (by omega), List.drop_zero]
      exact h1)
    simp only at g1 g2
    refine ⟨max K1 K2 + 1, fun k hk => ?_⟩
    obtain ⟨k, rfl⟩ : ∃ m, k = m + 1 := ⟨k - 1, by omega⟩
    simp only [calls_Depth.l0]
    rw [if_pos (by omega), if_pos (by omega), if_pos (by omega), hu, if_pos (by omega), if_pos (by omega), g1 k (by omega)]
    simp only [Option.bind_some]
    exact g2 k (by omega)
theorem set_rd (d : List Int) (u : Nat) (hu : u < d.length) : d.set u (rd d (u : Int)) = d := by
  have e : rd d (u : Int) = d[u] := by simp [rd, hu]
  rw [e, List.set_getElem_self]
theorem stp (u : Nat) (d : List Int) (hu : u < d.length) (x : Int) : dst u d x = if wrap64 (rd d x + 1) > rd d (u : Int) then d.set u (wrap64 (rd d x + 1)) else d := by
  unfold dst mx
  rw [Int.add_comm 1]
  by_cases c : wrap64 (rd d x + 1) > rd d (u : Int)
  · rw [if_pos c, if_pos (by omega)]
  · rw [if_neg c]
    split
    · omega
    · exact set_rd d u hu
theorem r1_ev (l : List S69) (ok : Ok l) (ord : List Int) (i : Int) (u : Nat) (hu : u < l.length) (res : List Int) : ∀ (r t : Nat) (d : List Int), t + r = l.length → d.length = l.length →
    Ev (fun k => ladderbackref21_Depth.l0 k l ord ((((List.range' t r).filter fun t => edge l u t).map fun t : Nat => (t : Int)).foldl (dst u) d) (wrap64 (i + 1))) res → Ev (fun k => ladderbackref21_Depth.l1 k l ord d i (u : Int) (t : Int)) res := by
  have hl := ok.1
  intro r
  induction r with
  | zero =>
    intro t d ht hd h
    obtain ⟨K, g⟩ := h
    simp only [List.range'_zero, List.filter_nil, List.map_nil, List.foldl_nil] at g
    refine ⟨K + 1, fun k hk => ?_⟩
    obtain ⟨k, rfl⟩ : ∃ m, k = m + 1 := ⟨k - 1, by omega⟩
    simp only [ladderbackref21_Depth.l1]
    rw [if_neg (by omega)]
    exact g k (by omega)
  | succ r ih =>
    intro t d ht hd h
    rw [List.range'_succ] at h
    obtain ⟨K1, g1⟩ := calls_ev l ok u t hu
    simp only at g1
    by_cases c : edge l u t = true
    · rw [List.filter_cons_of_pos (by simpa using c), List.map_cons, List.foldl_cons] at h
      obtain ⟨K2, g2⟩ := ih (t + 1) (dst u d (t : Int)) (by omega) (by rw [dst_len]; exact hd) h
      rw [stp u d (by omega)] at g2
      simp only at g2
      refine ⟨max K1 K2 + 1, fun k hk => ?_⟩
      obtain ⟨k, rfl⟩ : ∃ m, k = m + 1 := ⟨k - 1, by omega⟩
      have hg := g2 k (by omega)
      simp only [ladderbackref21_Depth.l1]
      rw [if_pos (by omega), g1 k (by omega)]
      simp only [Option.bind_some]
      rw [if_pos c, if_pos (by omega), if_pos (by omega), if_pos (by omega), if_pos (by omega), wnext t (by omega), Int.toNat_natCast]
      by_cases c2 : wrap64 (rd d (t : Int) + 1) > rd d (u : Int)
      · rw [if_pos c2] at hg ⊢; exact hg
      · rw [if_neg c2] at hg ⊢; exact hg
    · rw [List.filter_cons_of_neg (by simpa using c)] at h
      obtain ⟨K2, g2⟩ := ih (t + 1) d (by omega) hd h
      simp only at g2
      refine ⟨max K1 K2 + 1, fun k hk => ?_⟩
      obtain ⟨k, rfl⟩ : ∃ m, k = m + 1 := ⟨k - 1, by omega⟩
      simp only [ladderbackref21_Depth.l1]
      rw [if_pos (by omega), g1 k (by omega)]
      simp only [Option.bind_some]
      rw [if_neg c, wnext t (by omega)]
      exact g2 k (by omega)
theorem r0_ev (l : List S69) (ok : Ok l) (ord : List Int) (ho : ∀ x ∈ ord, 0 ≤ x ∧ x < (l.length : Int)) (hol : ord.length ≤ l.length) : ∀ (r i : Nat) (d : List Int), i + r = ord.length → d.length = l.length →
    Ev (fun k => ladderbackref21_Depth.l0 k l ord d (i : Int)) ((ord.drop i).foldl (dun l) d) := by
  have hl := ok.1
  intro r
  induction r with
  | zero =>
    intro i d hi hd
    rw [List.drop_eq_nil_of_le (by omega)]
    refine ⟨1, fun k hk => ?_⟩
    obtain ⟨k, rfl⟩ : ∃ m, k = m + 1 := ⟨k - 1, by omega⟩
    simp only [ladderbackref21_Depth.l0]
    rw [if_neg (by omega)]
    rfl
  | succ r ih =>
    intro i d hi hd
    have hx := ho _ (rd_mem ord i (by omega))
    obtain ⟨u, hu⟩ : ∃ u : Nat, rd ord (i : Int) = (u : Int) := ⟨(rd ord (i : Int)).toNat, by omega⟩
    rw [hu] at hx
    rw [drop_rd _ i (by omega), List.foldl_cons, hu]
    have h1 := ih (i + 1) (dun l d (u : Int)) (by omega) (by rw [dun_len]; exact hd)
    obtain ⟨K2, g2⟩ := r1_ev l ok ord (i : Int) u (by omega) _ l.length 0 (d.set u 1) (by omega) (by rw [List.length_set]; exact hd) (by
      rw [wnext i (by omega), ← List.range_eq_range']
      exact h1)
    simp only at g2
    refine ⟨K2 + 1, fun k hk => ?_⟩
    obtain ⟨k, rfl⟩ : ∃ m, k = m + 1 := ⟨k - 1, by omega⟩
    simp only [ladderbackref21_Depth.l0]
    rw [if_pos (by omega), if_pos (by omega), hu, if_pos (by omega), if_pos (by omega)]
    exact g2 k (by omega)
theorem ofs_ev (l : List S69) (ok : Ok l) (x : Int) : ∃ R, Ev (fun k => calls_Of.f k l x) R ∧ Ev (fun k => ladderbackref21_Of.f k l x) R ∧ R.length ≤ l.length := by
  by_cases h : 0 ≤ x ∧ x < (l.length : Int)
  · obtain ⟨u, rfl⟩ : ∃ u : Nat, x = (u : Int) := ⟨x.toNat, by omega⟩
    exact ⟨_, of_ev l ok u (by omega), refof_ev l ok u (by omega), row_len l u⟩
  · exact ⟨_, of_out l x h, refof_out l x h, by simp⟩
theorem CallsTell : ladderbacklaw21_CallsTell.Pure := by
  intro l hl x hx
  obtain ⟨Ka, ga⟩ := awake_ev
  simp only at ga
  rcases few_ev l with ⟨K, g⟩ | ⟨ok, K, g⟩
  · simp only at g
    refine ⟨max K Ka, ?_⟩
    simp only [ladderbacklaw21_CallsTell.f]
    rw [g _ (by omega)]
    simp only [Option.bind_some, Bool.false_eq_true, if_false]
    rw [ga _ (by omega)]
    rfl
  · simp only at g
    have h21 := ok.1
    obtain ⟨K1, g1⟩ := order_ev l ok
    obtain ⟨K2, g2⟩ := reforder_ev l ok
    obtain ⟨R, ⟨K3, g3⟩, ⟨K4, g4⟩, hR⟩ := ofs_ev l ok x
    have hm := ordS_mem l l.length [] (by simp)
    have hln := ordS_len l l.length []
    rw [List.length_nil, Nat.zero_add] at hln
    generalize ordS l l.length [] = q at g1 g2 hm hln
    obtain ⟨ord, b⟩ := q
    simp only at g1 g2 g3 g4 hm hln
    obtain ⟨K5, g5⟩ := ints_ev R R (by omega)
    obtain ⟨K6, g6⟩ := ints_ev ord ord (by omega)
    simp only [decide_true] at g5 g6
    by_cases c : b = true
    · obtain ⟨K7, g7⟩ := d0_ev l ok ord hm hln _ 0 (List.replicate l.length 0) (Nat.zero_add _) (by simp)
      obtain ⟨K8, g8⟩ := r0_ev l ok ord hm hln _ 0 (List.replicate l.length 0) (Nat.zero_add _) (by simp)
      have hdl := duns_len l (ord.drop 0) (List.replicate l.length 0)
      rw [List.length_replicate] at hdl
      generalize (ord.drop 0).foldl (dun l) (List.replicate l.length 0) = D at g7 g8 hdl
      obtain ⟨K9, g9⟩ := ints_ev D D (by omega)
      simp only [decide_true] at g7 g8 g9
      refine ⟨K + Ka + K1 + K2 + K3 + K4 + K5 + K6 + K7 + K8 + K9 + 1, ?_⟩
      generalize hk : K + Ka + K1 + K2 + K3 + K4 + K5 + K6 + K7 + K8 + K9 = k
      have e1 : calls_Depth.f (k + 1) l = some D := by
        simp only [calls_Depth.f]
        rw [g1 _ (by omega)]
        simp only [Option.bind_some]
        rw [if_pos c, if_pos (by omega), if_pos (by omega), Int.toNat_natCast]
        exact g7 _ (by omega)
      have e2 : ladderbackref21_Depth.f k l ord = some D := by
        simp only [ladderbackref21_Depth.f]
        rw [if_pos (by omega), if_pos (by omega), Int.toNat_natCast]
        exact g8 _ (by omega)
      simp only [ladderbacklaw21_CallsTell.f]
      rw [g _ (by omega)]
      simp only [Option.bind_some, if_true]
      rw [g1 _ (by omega)]
      simp only [Option.bind_some]
      rw [g2 _ (by omega)]
      simp only [Option.bind_some]
      rw [e1]
      simp only [Option.bind_some]
      rw [g3 _ (by omega)]
      simp only [Option.bind_some]
      rw [g4 _ (by omega)]
      simp only [Option.bind_some]
      rw [g5 _ (by omega)]
      simp only [Option.bind_some, if_true]
      rw [g6 _ (by omega)]
      simp only [Option.bind_some, if_true, bne_self_eq_false, ladderbacklaw21_CallsTell.j0, Bool.false_eq_true, if_false]
      rw [if_pos c, e2]
      simp only [Option.bind_some]
      rw [g9 _ (by omega)]
      simp only [Option.bind_some, if_true]
      rw [ga _ (by omega)]
      rfl
    · refine ⟨K + Ka + K1 + K2 + K3 + K4 + K5 + K6 + 1, ?_⟩
      generalize hk : K + Ka + K1 + K2 + K3 + K4 + K5 + K6 = k
      have e1 : calls_Depth.f (k + 1) l = some [] := by
        simp only [calls_Depth.f]
        rw [g1 _ (by omega)]
        simp only [Option.bind_some]
        rw [if_neg c]
      simp only [ladderbacklaw21_CallsTell.f]
      rw [g _ (by omega)]
      simp only [Option.bind_some, if_true]
      rw [g1 _ (by omega)]
      simp only [Option.bind_some]
      rw [g2 _ (by omega)]
      simp only [Option.bind_some]
      rw [e1]
      simp only [Option.bind_some]
      rw [g3 _ (by omega)]
      simp only [Option.bind_some]
      rw [g4 _ (by omega)]
      simp only [Option.bind_some]
      rw [g5 _ (by omega)]
      simp only [Option.bind_some, if_true]
      rw [g6 _ (by omega)]
      simp only [Option.bind_some, if_true, bne_self_eq_false, ladderbacklaw21_CallsTell.j0, Bool.false_eq_true, if_false]
      rw [if_neg c, if_pos (by simp), ga _ (by omega)]
      rfl
end Go.Proofs.Ytfiffhcpgojkhaa.Pure
