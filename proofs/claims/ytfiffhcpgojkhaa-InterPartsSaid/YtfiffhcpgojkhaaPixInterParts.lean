/- ref31.Reach: what is reached from the first place; plain. No condition but that the graph is small. -/
import Derived.Test.YtfiffhcpgojkhaaPdrInterParts
import Derived.Test.YtfiffhcpgojkhaaDomQ
import Derived.Test.YtfiffhcpgojkhaaPivInterParts
import Derived.Test.YtfiffhcpgojkhaaPhaInterParts
namespace Go.Proofs.Ytfiffhcpgojkhaa.PdeInterParts
open Go.Proofs.Ytfiffhcpgojkhaa Go.Proofs.Ytfiffhcpgojkhaa.QInterParts Go.Proofs.Ytfiffhcpgojkhaa.PdB Go.Proofs.Ytfiffhcpgojkhaa.PdrInterParts Go.Proofs.Ytfiffhcpgojkhaa.DomA Go.Proofs.Ytfiffhcpgojkhaa.DomF Go.Proofs.Ytfiffhcpgojkhaa.DomT Go.Proofs.Ytfiffhcpgojkhaa.DomP Go.RowKit Go.Proofs.YtfiffhcpgojkhaaW.PrintWords Go.Proofs.YtfiffhcpgojkhaaW.PrintLast Go.Proofs.YtfiffhcpgojkhaaW.PrintMore
set_option linter.unusedSimpArgs false
set_option linter.unusedVariables false
theorem rw_rch (next : List (List Int)) (v : Nat) : Rw next 0 (-1) v ↔ Rch next v := by
  constructor
  · intro h
    induction h with
    | @root v h1 h2 _ =>
      have : v = 0 := by omega
      subst this
      exact .root h2
    | step _ he _ ih => exact .step ih he
  · intro h
    induction h with
    | root h => exact .root rfl h (by omega)
    | step _ he ih => exact .step ih he (by omega)
theorem rw_av (next : List (List Int)) (hn : 0 < next.length) (x v : Nat) : Rw next 0 (x : Int) v ↔ Av (pre next) x v := by
  constructor
  · intro h
    have key : Rch next v ∧ Av (pre next) x v := by
      induction h with
      | @root v h1 h2 h3 =>
        have : v = 0 := by omega
        subst this
        exact ⟨.root h2, .root (by omega)⟩
      | step _ he hw ih => exact ⟨.step ih.1 he, .step ih.2 ⟨ih.1, he⟩ (by omega)⟩
    exact key.2
  · intro h
    induction h with
    | root h => exact .root rfl hn (by omega)
    | step _ hp hne ih => exact .step ih hp.2 (by omega)
theorem small_of {next : List (List Int)} {most : Nat} (hm : most ≤ 1000) (h : next.length ≤ most ∧ ∀ i, (next.getD i []).length ≤ 40) : Small next := ⟨by omega, fun i => by have := h.2 i; omega⟩
theorem reach0_ev (next : List (List Int)) (sm : Small next) : ∃ R : List Bool, Ev (fun k => ladderbackref31_Reach.f k next 0 (-1)) R ∧ R.length = next.length ∧ ∀ v, R.getD v false = true ↔ Rch next v := by
  obtain ⟨R, h1, h2, h3⟩ := reach_ev next (by have := sm.1; omega) (fun i => by have := sm.2 i; omega) 0 (-1)
  exact ⟨R, h1, h2, fun v => (h3 v).trans (rw_rch next v)⟩
end Go.Proofs.Ytfiffhcpgojkhaa.PdeInterParts
/- The document's intervals (ladderbackref34): the same as the program's; plain. No condition but that the graph is small. -/
namespace Go.Proofs.Ytfiffhcpgojkhaa.PiwInterParts
open Go.Proofs.Ytfiffhcpgojkhaa Go.Proofs.Ytfiffhcpgojkhaa.QInterParts Go.Proofs.Ytfiffhcpgojkhaa.PdB Go.Proofs.Ytfiffhcpgojkhaa.PdeInterParts Go.Proofs.Ytfiffhcpgojkhaa.PhaInterParts Go.Proofs.Ytfiffhcpgojkhaa.PikInterParts Go.Proofs.Ytfiffhcpgojkhaa.PitInterParts Go.Proofs.Ytfiffhcpgojkhaa.PiuInterParts Go.Proofs.Ytfiffhcpgojkhaa.DomF Go.Proofs.Ytfiffhcpgojkhaa.DomT Go.Proofs.Ytfiffhcpgojkhaa.DomP Go.Proofs.Ytfiffhcpgojkhaa.IntT Go.Proofs.Ytfiffhcpgojkhaa.IntU Go.RowKit Go.Proofs.YtfiffhcpgojkhaaW.PrintWords Go.Proofs.YtfiffhcpgojkhaaW.PrintLast Go.Proofs.YtfiffhcpgojkhaaW.PrintMore
set_option linter.unusedSimpArgs false
set_option linter.unusedVariables false
section
variable {next : List (List Int)}
open Classical in
/-- The places ahead of i. -/
noncomputable def frL (next : List (List Int)) (i n : Nat) : List Nat := (List.range n).filter fun p => decide (pre next p i)
open Classical in
theorem frL_succ (next : List (List Int)) (i n : Nat) : frL next i (n + 1) = frL next i n ++ (if pre next n i then [n] else []) := by
  unfold frL
  rw [List.range_succ, List.filter_append]
  congr 1
  by_cases h : pre next n i
  · rw [if_pos h, List.filter_cons_of_pos (by simpa using h)]; rfl
  · rw [if_neg h, List.filter_cons_of_neg (by simpa using h)]; rfl
open Classical in
theorem frL_mem (next : List (List Int)) (i n p : Nat) : p ∈ frL next i n ↔ p < n ∧ pre next p i := by
  unfold frL
  rw [List.mem_filter, List.mem_range, decide_eq_true_iff]
theorem frL_len (next : List (List Int)) (i n : Nat) : (frL next i n).length ≤ n := by
  unfold frL
  refine Nat.le_trans (List.length_filter_le _ _) ?_
  simp
theorem toI_len (l : List Nat) : (toI l).length = l.length := by simp [toI]
theorem toI_app (l m : List Nat) : toI (l ++ m) = toI l ++ toI m := by simp [toI]
theorem toI_at (l : List Nat) (j : Nat) (h : j < l.length) : rd (toI l) (j : Int) = ((l.getD j 0 : Nat) : Int) := by simp [rd, toI, h]
theorem getD_mem (l : List Nat) (j : Nat) (h : j < l.length) : l.getD j 0 ∈ l := by
  rw [List.getD_eq_getElem?_getD, List.getElem?_eq_getElem h]
  exact List.getElem_mem h
theorem take_succ2 (l : List Nat) (j : Nat) (h : j < l.length) : l.take (j + 1) = l.take j ++ [l.getD j 0] := by
  rw [List.take_add_one, List.getD_eq_getElem?_getD, List.getElem?_eq_getElem h]
  rfl
open Classical in
theorem from_ev (sm : Small next) (i : Nat) (hi : i < next.length) : Ev (fun k => ladderbackref34_from.f k next (i : Int)) (toI (frL next i next.length)) := by
  have hn := sm.1
  obtain ⟨R, ⟨KR, gR⟩, hRl, hR⟩ := reach0_ev next sm
  simp only at gR
  have key : ∀ r j : Nat, j + r = next.length → Ev (fun k => ladderbackref34_from.l0 k next (i : Int) R (toI (frL next i j)) (j : Int)) (toI (frL next i next.length)) := by
    intro r
    induction r with
    | zero =>
      intro j hj
      obtain rfl : j = next.length := by omega
      refine ⟨1, fun k hk => ?_⟩
      obtain ⟨k, rfl⟩ : ∃ m, k = m + 1 := ⟨k - 1, by omega⟩
      simp only [ladderbackref34_from.l0]
      rw [if_neg (by omega)]
    | succ r ih =>
      intro j hj
      obtain ⟨K, g⟩ := ih (j + 1) (by omega)
      simp only at g
      rw [frL_succ] at g
      have hl := frL_len next i j
      have hrow := sm.2 j
      by_cases hRj : Rch next j
      · obtain ⟨K2, g2⟩ := has_ev (next.getD j []) (i : Int) (by omega)
        simp only at g2
        refine ⟨max K K2 + 1, fun k hk => ?_⟩
        obtain ⟨k, rfl⟩ : ∃ m, k = m + 1 := ⟨k - 1, by omega⟩
        simp only [ladderbackref34_from.l0]
        rw [if_pos (by omega), if_pos (by omega), if_pos (by omega), PitInterParts.rdb_nat, if_pos ((hR j).mpr hRj), rdL1_eq, g2 k (by omega)]
        simp only [Option.bind_some]
        by_cases hm : (i : Int) ∈ next.getD j []
        · have hp : pre next j i := ⟨hRj, hm, hi⟩
          rw [if_pos hp, toI_app] at g
          rw [if_pos (decide_eq_true hm), toI_len, if_pos (by omega), wnext j (by omega)]
          exact g k (by omega)
        · rw [if_neg (fun h : pre next j i => hm h.2.1), List.append_nil] at g
          rw [if_neg (fun hd => hm (of_decide_eq_true hd)), wnext j (by omega)]
          exact g k (by omega)
      · have hb : R.getD j false = false := by
          cases h : R.getD j false with
          | true => exact absurd ((hR j).mp h) hRj
          | false => rfl
        rw [if_neg (fun h : pre next j i => hRj h.1), List.append_nil] at g
        refine ⟨K + 1, fun k hk => ?_⟩
        obtain ⟨k, rfl⟩ : ∃ m, k = m + 1 := ⟨k - 1, by omega⟩
        simp only [ladderbackref34_from.l0]
        rw [if_pos (by omega), if_pos (by omega), if_pos (by omega), PitInterParts.rdb_nat, hb, if_neg (by decide), wnext j (by omega)]
        exact g k (by omega)
  obtain ⟨K, g⟩ := key next.length 0 (by omega)
  have e0 : frL next i 0 = [] := rfl
  rw [e0] at g
  simp only [toI, List.map_nil] at g
  refine ⟨max K KR, fun k hk => ?_⟩
  simp only [ladderbackref34_from.f]
  rw [gR k (by omega)]
  simp only [Option.bind_some]
  exact g k (by omega)
/-- How many are not in. -/
def cf (M : List Bool) : Nat := M.countP fun b => !b
theorem cf_set : ∀ (M : List Bool) (i : Nat), i < M.length → M.getD i false = false → cf (M.set i true) + 1 = cf M := by
  intro M
  induction M with
  | nil => intro i hi; simp at hi
  | cons x M ih =>
    intro i hi h
    cases i with
    | zero =>
      have hx : x = false := by simpa using h
      subst hx
      unfold cf
      rw [List.set_cons_zero, List.countP_cons_of_neg (by simp), List.countP_cons_of_pos (by simp)]
    | succ i =>
      have h2 := ih i (by simpa using hi) (by simpa using h)
      unfold cf at h2 ⊢
      rw [List.set_cons_succ, List.countP_cons, List.countP_cons]
      omega
theorem set_same (M : List Bool) (i : Nat) (h : M.getD i false = false) : M.set i false = M := by
  refine List.ext_getElem (by simp) fun j h1 h2 => ?_
  rw [List.getElem_set]
  split
  · rename_i e
    subst e
    have : M.getD i false = M[i] := by simp [List.getD_eq_getElem?_getD, h2]
    rw [← this, h]
  · rfl
theorem getB_set (M : List Bool) (i j : Nat) (b : Bool) (hi : i < M.length) : (M.set i b).getD j false = if j = i then b else M.getD j false := PikInterParts.getDb_set M i j b hi
variable {L : List (List Nat)} {h : Nat}
/-- What holds in a pass. -/
structure PS (next : List (List Int)) (L : List (List Nat)) (h : Nat) (M0 : List Bool) (i : Nat) (M : List Bool) : Prop where
  len : M.length = next.length
  hd : M.getD h false = true
  snd : ∀ x, x < next.length → M.getD x false = true → In (Rch next) (pre next) (Tk L) h x
  sub : ∀ x, M0.getD x false = true → M.getD x false = true
  fin : cf M < cf M0 ∨ (M = M0 ∧ ∀ j, 1 ≤ j → j < i → Rch next j → ¬ Tk L j → M0.getD j false = false → ∃ p, pre next p j ∧ p ≠ j ∧ M0.getD p false = false)
theorem l2_ev (sm : Small next) {R tk : List Bool} {M : List Bool} {t : Int} {i : Nat} (hi : i < next.length) (hM : M.length = next.length) {res : List Int} (fr : List Nat) (hfl : fr.length ≤ 1000) (hfr : ∀ p, p ∈ fr → p < next.length) (hgo : Ev (fun k => ladderbackref34_Interval.l1 k next (h : Int) tk R (M.set i (fr.all fun p => M.getD p false || decide (p = i))) t ((i + 1 : Nat) : Int)) res) : ∀ r j : Nat, j + r = fr.length →
    Ev (fun k => ladderbackref34_Interval.l2 k next (h : Int) tk R M t (i : Int) ((fr.take j).all fun p => M.getD p false || decide (p = i)) (toI fr) (j : Int)) res := by
  have hn := sm.1
  intro r
  induction r with
  | zero =>
    intro j hj
    obtain ⟨K, g⟩ := hgo
    simp only at g
    refine ⟨K + 1, fun k hk => ?_⟩
    obtain ⟨k, rfl⟩ : ∃ m, k = m + 1 := ⟨k - 1, by omega⟩
    simp only [ladderbackref34_Interval.l2]
    rw [toI_len, if_neg (by omega), if_pos (by omega), if_pos (by omega), List.take_of_length_le (by omega), Int.toNat_natCast, wnext i (by omega)]
    exact g k (by omega)
  | succ r ih =>
    intro j hj
    obtain ⟨K, g⟩ := ih (j + 1) (by omega)
    simp only at g
    obtain ⟨p, hp⟩ : ∃ p, p = fr.getD j 0 := ⟨_, rfl⟩
    have hpm : p ∈ fr := by rw [hp]; exact getD_mem _ _ (by omega)
    have hpl := hfr p hpm
    rw [take_succ2 fr j (by omega), ← hp, List.all_append] at g
    refine ⟨K + 1, fun k hk => ?_⟩
    obtain ⟨k, rfl⟩ : ∃ m, k = m + 1 := ⟨k - 1, by omega⟩
    simp only [ladderbackref34_Interval.l2]
    rw [toI_len, if_pos (by omega)]
    generalize ((fr.take j).all fun p => M.getD p false || decide (p = i)) = bb at g ⊢
    cases bb with
    | false =>
      rw [if_neg (by decide), wnext j (by omega)]
      have := g k (by omega)
      rw [Bool.false_and] at this
      exact this
    | true =>
      rw [Bool.true_and] at g
      rw [if_pos rfl, if_pos (by omega), toI_at fr j (by omega), ← hp, if_pos (by omega), if_pos (by omega), PitInterParts.rdb_nat]
      have g2 := g k (by omega)
      simp only [List.all_cons, List.all_nil, Bool.and_true] at g2
      cases hb : M.getD p false with
      | true =>
        rw [hb, Bool.true_or] at g2
        rw [if_pos rfl, wnext j (by omega)]
        exact g2
      | false =>
        rw [hb, Bool.false_or] at g2
        rw [if_neg (by decide), wnext j (by omega)]
        have e : ((p : Int) == (i : Int)) = decide (p = i) := by
          rw [Bool.eq_iff_iff, beq_iff_eq, decide_eq_true_iff]; omega
        rw [e]
        exact g2
theorem l1_ev (sm : Small next) {R tk : List Bool} (hRl : R.length = next.length) (hR : ∀ v, R.getD v false = true ↔ Rch next v) (htl : tk.length = next.length) (htk : ∀ x, x < next.length → (tk.getD x false = true ↔ Tk L x)) {M0 : List Bool} {t : Nat} (ht : t < 2000) {res : List Int}
    (hgo : ∀ M, PS next L h M0 next.length M → Ev (fun k => ladderbackref34_Interval.l0 k next (h : Int) tk R M ((t + 1 : Nat) : Int)) res) : ∀ (r i : Nat) (M : List Bool), i + r = next.length → 1 ≤ i → PS next L h M0 i M → Ev (fun k => ladderbackref34_Interval.l1 k next (h : Int) tk R M (t : Int) (i : Int)) res := by
  have hn := sm.1
  intro r
  induction r with
  | zero =>
    intro i M hi h1 p
    obtain rfl : i = next.length := by omega
    obtain ⟨K, g⟩ := hgo M p
    simp only at g
    refine ⟨K + 1, fun k hk => ?_⟩
    obtain ⟨k, rfl⟩ : ∃ m, k = m + 1 := ⟨k - 1, by omega⟩
    simp only [ladderbackref34_Interval.l1]
    rw [if_neg (by omega), wnext t (by omega)]
    exact g k (by omega)
  | succ r ih =>
    intro i M hi h1 p
    have hil : i < next.length := by omega
    have hMl := p.len
    by_cases hskip : ¬ Rch next i ∨ Tk L i ∨ M.getD i false = true
    · have p2 : PS next L h M0 (i + 1) M := ⟨p.len, p.hd, p.snd, p.sub, p.fin.imp id fun ⟨e, hc⟩ => ⟨e, fun j j1 j2 j3 j4 j5 => by
        by_cases ej : j = i
        · subst ej
          rcases hskip with hs | hs | hs
          · exact absurd j3 hs
          · exact absurd hs j4
          · rw [e, j5] at hs; cases hs
        · exact hc j j1 (by omega) j3 j4 j5⟩⟩
      obtain ⟨K, g⟩ := ih (i + 1) M (by omega) (by omega) p2
      simp only at g
      refine ⟨K + 2, fun k hk => ?_⟩
      obtain ⟨k, rfl⟩ : ∃ m, k = m + 2 := ⟨k - 2, by omega⟩
      have hj2 : ladderbackref34_Interval.j2 (k + 1) next (h : Int) tk R M (t : Int) (i : Int) true = some res := by
        simp only [ladderbackref34_Interval.j2, if_true]
        rw [wnext i (by omega)]
        exact g k (by omega)
      simp only [ladderbackref34_Interval.l1]
      rw [if_pos (by omega), if_pos (by omega), if_pos (by omega), PitInterParts.rdb_nat, PitInterParts.rdb_nat, PitInterParts.rdb_nat]
      cases hb : R.getD i false with
      | false => rw [if_neg (by decide)]; exact hj2
      | true =>
        rw [if_pos rfl, if_pos (by omega)]
        cases hb2 : tk.getD i false with
        | true => rw [if_pos rfl]; exact hj2
        | false =>
          rw [if_neg (by decide), if_pos (by omega)]
          have : M.getD i false = true := by
            rcases hskip with hs | hs | hs
            · exact absurd ((hR i).mp hb) hs
            · rw [(htk i hil).mpr hs] at hb2; cases hb2
            · exact hs
          rw [this]; exact hj2
    · have hRi : Rch next i := Classical.byContradiction fun hh => hskip (.inl hh)
      have hTi : ¬ Tk L i := fun hh => hskip (.inr (.inl hh))
      have hMi : M.getD i false = false := by
        cases hb : M.getD i false with
        | true => exact absurd (.inr (.inr hb)) hskip
        | false => rfl
      have hti : tk.getD i false = false := by
        cases hb : tk.getD i false with
        | true => exact absurd ((htk i hil).mp hb) hTi
        | false => rfl
      obtain ⟨ok, hok⟩ : ∃ ok, ok = (frL next i next.length).all fun q => M.getD q false || decide (q = i) := ⟨_, rfl⟩
      have hall : ok = true ↔ ∀ q, pre next q i → q ≠ i → M.getD q false = true := by
        rw [hok, List.all_eq_true]
        constructor
        · intro hh q hq hne
          have := hh q ((frL_mem _ _ _ _).mpr ⟨Rch.lt hq.1, hq⟩)
          simpa [hne] using this
        · intro hh q hq
          obtain ⟨_, hq⟩ := (frL_mem _ _ _ _).mp hq
          by_cases e : q = i
          · simp [e]
          · rw [hh q hq e, Bool.true_or]
      have p2 : PS next L h M0 (i + 1) (M.set i ok) := by
        cases hk : ok with
        | false =>
          rw [set_same M i hMi]
          refine ⟨p.len, p.hd, p.snd, p.sub, p.fin.imp id fun ⟨e, hc⟩ => ⟨e, fun j j1 j2 j3 j4 j5 => ?_⟩⟩
          by_cases ej : j = i
          · subst ej
            refine Classical.byContradiction fun hno => ?_
            have : ok = true := hall.mpr fun q hq hne => by
              rw [e]
              cases hb : M0.getD q false with
              | true => rfl
              | false => exact absurd ⟨q, hq, hne, hb⟩ hno
            rw [hk] at this; cases this
          · exact hc j j1 (by omega) j3 j4 j5
        | true =>
          have hc := cf_set M i (by omega) hMi
          refine ⟨by rw [List.length_set]; exact p.len, ?_, ?_, ?_, .inl ?_⟩
          · rw [getB_set _ _ _ _ (by omega)]
            split
            · rfl
            · exact p.hd
          · intro x hx hb
            rw [getB_set _ _ _ _ (by omega)] at hb
            by_cases e : x = i
            · rw [e]
              exact In.closed (n := next.length) (fun q j hq => Rch.lt hq.1) (by omega) hRi hTi fun q hq hne => p.snd q (Rch.lt hq.1) (hall.mp hk q hq hne)
            · rw [if_neg e] at hb; exact p.snd x hx hb
          · intro x hb
            rw [getB_set _ _ _ _ (by omega)]
            split
            · rfl
            · exact p.sub x hb
          · rcases p.fin with hf | ⟨e, _⟩
            · omega
            · rw [e] at hc ⊢; omega
      obtain ⟨KF, gF⟩ := from_ev sm i hil
      obtain ⟨K, g⟩ := l2_ev (h := h) (R := R) (tk := tk) (M := M) (t := (t : Int)) (res := res) sm hil hMl (frL next i next.length) (by have := frL_len next i next.length; omega) (fun q hq => ((frL_mem _ _ _ _).mp hq).1) (by rw [← hok]; exact ih (i + 1) _ (by omega) (by omega) p2) (frL next i next.length).length 0 (by omega)
      simp only [List.take_zero, List.all_nil] at gF g
      refine ⟨max K KF + 2, fun k hk => ?_⟩
      obtain ⟨k, rfl⟩ : ∃ m, k = m + 2 := ⟨k - 2, by omega⟩
      simp only [ladderbackref34_Interval.l1]
      rw [if_pos (by omega), if_pos (by omega), if_pos (by omega), PitInterParts.rdb_nat, PitInterParts.rdb_nat, PitInterParts.rdb_nat, (hR i).mpr hRi, if_pos rfl, if_pos (by omega), hti, if_neg (by decide), if_pos (by omega), hMi]
      simp only [ladderbackref34_Interval.j2, Bool.false_eq_true, if_false]
      rw [gF k (by omega)]
      simp only [Option.bind_some]
      exact g k (by omega)
open Classical in
/-- The row is told. -/
theorem l3_ev (sm : Small next) (hh : h < next.length) {M : List Bool} (hM : M.length = next.length) (hIn : ∀ x, x < next.length → (M.getD x false = true ↔ In (Rch next) (pre next) (Tk L) h x)) : ∀ r i : Nat, i + r = next.length →
    Ev (fun k => ladderbackref34_Interval.l3 k next (h : Int) M ((h : Int) :: toI ((List.range i).filter fun x => decide (In (Rch next) (pre next) (Tk L) h x ∧ x ≠ h))) (i : Int)) (toI (ivl next.length (Rch next) (pre next) (Tk L) h)) := by
  have hn := sm.1
  intro r
  induction r with
  | zero =>
    intro i hi
    obtain rfl : i = next.length := by omega
    refine ⟨1, fun k hk => ?_⟩
    obtain ⟨k, rfl⟩ : ∃ m, k = m + 1 := ⟨k - 1, by omega⟩
    simp only [ladderbackref34_Interval.l3]
    rw [if_neg (by omega)]
    rfl
  | succ r ih =>
    intro i hi
    obtain ⟨K, g⟩ := ih (i + 1) (by omega)
    simp only at g
    have hle : ((List.range i).filter fun x => decide (In (Rch next) (pre next) (Tk L) h x ∧ x ≠ h)).length ≤ i := by
      refine Nat.le_trans (List.length_filter_le _ _) ?_
      simp
    rw [List.range_succ, List.filter_append, toI_app] at g
    refine ⟨K + 1, fun k hk => ?_⟩
    obtain ⟨k, rfl⟩ : ∃ m, k = m + 1 := ⟨k - 1, by omega⟩
    simp only [ladderbackref34_Interval.l3]
    rw [if_pos (by omega), if_pos (by omega), if_pos (by omega), PitInterParts.rdb_nat, wnext i (by omega)]
    by_cases hb : M.getD i false = true
    · rw [if_pos hb]
      by_cases e : i = h
      · rw [List.filter_cons_of_neg (by simp [e]), List.filter_nil] at g
        rw [if_pos (by omega)]
        have := g k (by omega)
        simpa [toI] using this
      · rw [List.filter_cons_of_pos (by simp [e, (hIn i (by omega)).mp hb]), List.filter_nil] at g
        rw [if_neg (by omega), if_pos (by rw [List.length_cons, toI_len]; omega)]
        exact g k (by omega)
    · rw [if_neg hb]
      rw [List.filter_cons_of_neg (by
        rw [decide_eq_true_iff]
        exact fun hc => hb ((hIn i (by omega)).mpr hc.1)), List.filter_nil] at g
      have := g k (by omega)
      simpa [toI] using this
theorem l0_ev (sm : Small next) (hh : h < next.length) {R tk : List Bool} (hRl : R.length = next.length) (hR : ∀ v, R.getD v false = true ↔ Rch next v) (htl : tk.length = next.length) (htk : ∀ x, x < next.length → (tk.getD x false = true ↔ Tk L x)) : ∀ (r t : Nat) (M : List Bool), t + r = next.length → M.length = next.length → M.getD h false = true → (∀ x, x < next.length → M.getD x false = true → In (Rch next) (pre next) (Tk L) h x) → ((∀ x, x < next.length → In (Rch next) (pre next) (Tk L) h x → M.getD x false = true) ∨ cf M + t + 1 ≤ next.length) →
    Ev (fun k => ladderbackref34_Interval.l0 k next (h : Int) tk R M (t : Int)) (toI (ivl next.length (Rch next) (pre next) (Tk L) h)) := by
  have hn := sm.1
  intro r
  induction r with
  | zero =>
    intro t M ht hl hd hs hf
    have hfull : ∀ x, x < next.length → In (Rch next) (pre next) (Tk L) h x → M.getD x false = true := by
      rcases hf with hf | hf
      · exact hf
      · omega
    obtain ⟨K, g⟩ := l3_ev (h := h) (L := L) sm hh hl (fun x hx => ⟨hs x hx, hfull x hx⟩) next.length 0 (by omega)
    simp only [List.range_zero, List.filter_nil] at g
    refine ⟨K + 1, fun k hk => ?_⟩
    obtain ⟨k, rfl⟩ : ∃ m, k = m + 1 := ⟨k - 1, by omega⟩
    simp only [ladderbackref34_Interval.l0]
    rw [if_neg (by omega)]
    exact g k (by omega)
  | succ r ih =>
    intro t M ht hl hd hs hf
    have p0 : PS next L h M 1 M := ⟨hl, hd, hs, fun _ hx => hx, .inr ⟨rfl, fun j j1 j2 => by omega⟩⟩
    obtain ⟨K, g⟩ := l1_ev (L := L) sm hRl hR htl htk (M0 := M) (t := t) (by omega) (fun M' p => ih (t + 1) M' (by omega) p.len p.hd p.snd (by
      rcases p.fin with hlt | ⟨e, hc⟩
      · rcases hf with hf | hf
        · exact .inl fun x hx hi => p.sub x (hf x hx hi)
        · exact .inr (by omega)
      · left
        intro x hx hi
        rw [e]
        have key : x < next.length → M.getD x false = true := by
          refine In.ind (P := fun x => x < next.length → M.getD x false = true) (fun _ => hd) (fun y h0 hRy hty hall hy => ?_) hi
          cases hb : M.getD y false with
          | true => rfl
          | false =>
            obtain ⟨q, hq, hqy, hqb⟩ := hc y (by omega) hy hRy hty hb
            rw [hall q hq hqy (Rch.lt hq.1)] at hqb
            cases hqb
        exact key hx)) (next.length - 1) 1 M (by omega) (Nat.le_refl _) p0
    simp only at g
    refine ⟨K + 1, fun k hk => ?_⟩
    obtain ⟨k, rfl⟩ : ∃ m, k = m + 1 := ⟨k - 1, by omega⟩
    simp only [ladderbackref34_Interval.l0]
    rw [if_pos (by omega)]
    exact g k (by omega)
theorem cf_le (M : List Bool) : cf M ≤ M.length := List.countP_le_length
theorem interval_ev (sm : Small next) (hh : h < next.length) {tk : List Bool} (htl : tk.length = next.length) (htk : ∀ x, x < next.length → (tk.getD x false = true ↔ Tk L x)) : Ev (fun k => ladderbackref34_Interval.f k next (h : Int) tk) (toI (ivl next.length (Rch next) (pre next) (Tk L) h)) := by
  have hn := sm.1
  obtain ⟨R, ⟨KR, gR⟩, hRl, hR⟩ := reach0_ev next sm
  simp only at gR
  obtain ⟨M0, hM0⟩ : ∃ M0, M0 = List.replicate next.length false := ⟨_, rfl⟩
  have hl0 : M0.length = next.length := by rw [hM0]; simp
  have hz : ∀ x, M0.getD x false = false := fun x => by
    rw [hM0]
    by_cases hx : x < next.length <;> simp [List.getD_eq_getElem?_getD, hx]
  have hc := cf_set M0 h (by omega) (hz h)
  have hcl := cf_le M0
  obtain ⟨K, g⟩ := l0_ev (L := L) sm hh hRl hR htl htk next.length 0 (M0.set h true) (by omega) (by rw [List.length_set]; exact hl0) (by rw [getB_set _ _ _ _ (by omega), if_pos rfl]) (fun x hx hb => by
    rw [getB_set _ _ _ _ (by omega)] at hb
    by_cases e : x = h
    · exact ⟨0, e⟩
    · rw [if_neg e, hz] at hb; cases hb) (.inr (by omega))
  simp only at g
  refine ⟨max K KR, fun k hk => ?_⟩
  simp only [ladderbackref34_Interval.f]
  rw [gR k (by omega)]
  simp only [Option.bind_some]
  rw [if_pos (by omega), if_pos (by omega)]
  simp only [Int.toNat_natCast]
  rw [← hM0, if_pos (by omega), if_pos (by omega)]
  exact g k (by omega)
end
end Go.Proofs.Ytfiffhcpgojkhaa.PiwInterParts
/- The document's Parts and Derive (ladderbackref34): the same as the program's; plain. No condition but that the graph is small. -/
namespace Go.Proofs.Ytfiffhcpgojkhaa.PixInterParts
open Go.Proofs.Ytfiffhcpgojkhaa Go.Proofs.Ytfiffhcpgojkhaa.QInterParts Go.Proofs.Ytfiffhcpgojkhaa.PdB Go.Proofs.Ytfiffhcpgojkhaa.PdeInterParts Go.Proofs.Ytfiffhcpgojkhaa.PhaInterParts Go.Proofs.Ytfiffhcpgojkhaa.PikInterParts Go.Proofs.Ytfiffhcpgojkhaa.PitInterParts Go.Proofs.Ytfiffhcpgojkhaa.PiuInterParts Go.Proofs.Ytfiffhcpgojkhaa.PiwInterParts Go.Proofs.Ytfiffhcpgojkhaa.DomF Go.Proofs.Ytfiffhcpgojkhaa.DomT Go.Proofs.Ytfiffhcpgojkhaa.DomP Go.Proofs.Ytfiffhcpgojkhaa.IntT Go.Proofs.Ytfiffhcpgojkhaa.IntU Go.RowKit Go.Proofs.YtfiffhcpgojkhaaW.PrintWords Go.Proofs.YtfiffhcpgojkhaaW.PrintLast Go.Proofs.YtfiffhcpgojkhaaW.PrintMore
set_option linter.unusedSimpArgs false
set_option linter.unusedVariables false
section
variable {next : List (List Int)}
theorem mark_ev : ∀ (l : List Nat) (tk : List Bool), (∀ x, x ∈ l → x < tk.length) → ∃ tk2, markF (toI l) tk = some tk2 ∧ tk2.length = tk.length ∧ ∀ x, tk2.getD x false = true ↔ tk.getD x false = true ∨ x ∈ l := by
  intro l
  induction l with
  | nil => intro tk _; exact ⟨tk, rfl, rfl, fun x => ⟨.inl, fun h => h.elim id (fun h => by cases h)⟩⟩
  | cons v l ih =>
    intro tk hl
    have hv := hl v List.mem_cons_self
    obtain ⟨tk2, h1, h2, h3⟩ := ih (tk.set v true) (fun x hx => by rw [List.length_set]; exact hl x (List.mem_cons_of_mem _ hx))
    rw [List.length_set] at h2
    refine ⟨tk2, ?_, h2, fun x => ?_⟩
    · show markF ((v : Int) :: toI l) tk = _
      simp only [markF]
      rw [if_pos ⟨by omega, by omega⟩, Int.toNat_natCast]
      exact h1
    · rw [h3, getB_set _ _ _ _ hv, List.mem_cons]
      by_cases e : x = v
      · rw [if_pos e]; exact ⟨fun _ => .inr (.inl e), fun _ => .inl rfl⟩
      · rw [if_neg e]
        exact ⟨fun h => h.elim .inl (fun h => .inr (.inr h)), fun h => h.elim .inl (fun h => h.elim (fun h => absurd h e) .inr)⟩
theorem some_ev (tk : List Bool) : ∀ (l : List Nat) (b : Bool), (∀ x, x ∈ l → x < tk.length) → someF tk (toI l) b = some (b || l.any fun x => tk.getD x false) := by
  intro l
  induction l with
  | nil => intro b _; show some b = _; simp
  | cons v l ih =>
    intro b hl
    have hv := hl v List.mem_cons_self
    have hl2 := fun x hx => hl x (List.mem_cons_of_mem v hx)
    show someF tk ((v : Int) :: toI l) b = _
    simp only [someF]
    cases b with
    | true => rw [if_pos rfl, ih true hl2]; simp
    | false =>
      rw [if_neg (by decide), if_pos ⟨by omega, by omega⟩, PitInterParts.rdb_nat, ih _ hl2, List.any_cons, Bool.false_or]
theorem head_ev (sm : Small next) {L : List (List Nat)} {R tk : List Bool} (hR : ∀ v, R.getD v false = true ↔ Rch next v) (htl : tk.length = next.length) (htk : ∀ x, x < next.length → (tk.getD x false = true ↔ Tk L x)) : ∀ (r : Nat) (h : Int), r ≤ next.length → ∃ (K : Nat) (v : Int), (∀ k, K ≤ k → headP k next R tk r h = some v) ∧ ((∃ i, i < r ∧ Hd (Rch next) (pre next) (Tk L) i ∧ (∀ j, j < i → ¬ Hd (Rch next) (pre next) (Tk L) j) ∧ v = (i : Int)) ∨ ((∀ j, j < r → ¬ Hd (Rch next) (pre next) (Tk L) j) ∧ v = h)) := by
  have hn := sm.1
  intro r
  induction r with
  | zero => intro h _; exact ⟨0, h, fun k _ => rfl, .inr ⟨fun j hj => absurd hj (Nat.not_lt_zero _), rfl⟩⟩
  | succ r ih =>
    intro h hr
    obtain ⟨KF, gF⟩ := from_ev sm r (by omega)
    simp only at gF
    have hs := some_ev tk (frL next r next.length) false (fun x hx => by have := ((frL_mem _ _ _ _).mp hx).1; omega)
    have hc : (rdOf false R (r : Int) = true ∧ rdOf false tk (r : Int) = false ∧ (false || (frL next r next.length).any fun x => tk.getD x false) = true) ↔ Hd (Rch next) (pre next) (Tk L) r := by
      rw [PitInterParts.rdb_nat, PitInterParts.rdb_nat, hR, Bool.false_or, List.any_eq_true]
      constructor
      · rintro ⟨h1, h2, x, h3, h4⟩
        obtain ⟨h5, h6⟩ := (frL_mem _ _ _ _).mp h3
        exact ⟨h1, fun ht => (by rw [(htk r (by omega)).mpr ht] at h2; cases h2), x, h6, (htk x h5).mp h4⟩
      · rintro ⟨h1, h2, x, h3, h4⟩
        have hx := Rch.lt h3.1
        refine ⟨h1, ?_, x, (frL_mem _ _ _ _).mpr ⟨hx, h3⟩, (htk x hx).mpr h4⟩
        cases hb : tk.getD r false with
        | true => exact absurd ((htk r (by omega)).mp hb) h2
        | false => rfl
    have hfl := frL_len next r next.length
    by_cases c : Hd (Rch next) (pre next) (Tk L) r
    · obtain ⟨K, v, g, hv⟩ := ih (r : Int) (by omega)
      refine ⟨max K KF, v, fun k hk => ?_, .inl ?_⟩
      · simp only [headP]
        rw [gF k (by omega)]
        simp only [Option.bind_some]
        rw [toI_len, if_pos (by omega), hs]
        simp only [Option.bind_some]
        rw [if_pos (hc.mpr c)]
        exact g k (by omega)
      · rcases hv with ⟨i, h1, h2, h3, h4⟩ | ⟨h1, h2⟩
        · exact ⟨i, by omega, h2, h3, h4⟩
        · exact ⟨r, by omega, c, h1, h2⟩
    · obtain ⟨K, v, g, hv⟩ := ih h (by omega)
      refine ⟨max K KF, v, fun k hk => ?_, ?_⟩
      · simp only [headP]
        rw [gF k (by omega)]
        simp only [Option.bind_some]
        rw [toI_len, if_pos (by omega), hs]
        simp only [Option.bind_some]
        rw [if_neg (fun h => c (hc.mp h))]
        exact g k (by omega)
      · rcases hv with ⟨i, h1, h2, h3, h4⟩ | ⟨h1, h2⟩
        · exact .inl ⟨i, by omega, h2, h3, h4⟩
        · refine .inr ⟨fun j hj => ?_, h2⟩
          by_cases e : j = r
          · rw [e]; exact c
          · exact h1 j (by omega)
theorem run_le {L L2 : List (List Nat)} {ho : Option Nat} (r : Run next.length (Rch next) (pre next) L ho L2) : L.length ≤ L2.length ∧ (ho ≠ none → L.length < L2.length) := by
  induction r with
  | done L => exact ⟨Nat.le_refl _, fun h => absurd rfl h⟩
  | more _ ih =>
    have := ih.1
    rw [List.length_append, List.length_singleton] at this
    exact ⟨by omega, fun _ => by omega⟩
theorem ivl_len {L : List (List Nat)} {h : Nat} (hh : h < next.length) : (∀ x, x ∈ ivl next.length (Rch next) (pre next) (Tk L) h → x < next.length) ∧ (ivl next.length (Rch next) (pre next) (Tk L) h).length ≤ next.length := by
  have h1 : ∀ x, x ∈ ivl next.length (Rch next) (pre next) (Tk L) h → x < next.length := fun x hx => (mem_ivl.mp hx).elim (fun e => by omega) (fun e => e.1)
  exact ⟨h1, nodup_len _ _ ivl_nodup h1⟩
/-- A head as the program has it. -/
def hz : Option Nat → Int
 | some h => (h : Int)
 | none => -1
theorem run_ev (sm : Small next) {L L2 : List (List Nat)} {ho : Option Nat} (rn : Run next.length (Rch next) (pre next) L ho L2) : ∀ (r : Nat) (tk : List Bool), L2.length ≤ L.length + r → L2.length ≤ 1000 → tk.length = next.length → (∀ x, x < next.length → (tk.getD x false = true ↔ Tk L x)) → (∀ h, ho = some h → h < next.length) →
    Ev (fun k => partsP k next r tk (toL L) (hz ho)) (toL L2) := by
  have hn := sm.1
  induction rn with
  | done L =>
    intro r tk _ _ _ _ _
    refine ⟨0, fun k _ => ?_⟩
    cases r with
    | zero => rfl
    | succ r =>
      simp only [partsP]
      rw [if_neg (by show ¬ ((-1 : Int) ≥ 0); decide)]
  | @more L L2 h rn ih =>
    intro r tk hr hb htl htk hho
    have hh := hho h rfl
    have hle := (run_le rn).1
    rw [List.length_append, List.length_singleton] at hle
    obtain ⟨r, rfl⟩ : ∃ m, r = m + 1 := ⟨r - 1, by omega⟩
    obtain ⟨KI, gI⟩ := interval_ev (L := L) sm hh htl htk
    obtain ⟨hiv, hivl⟩ := ivl_len (L := L) hh
    obtain ⟨tk2, hm, hm2, hm3⟩ := mark_ev (ivl next.length (Rch next) (pre next) (Tk L) h) tk (fun x hx => by rw [htl]; exact hiv x hx)
    obtain ⟨R, ⟨KR, gR⟩, hRl, hR⟩ := reach0_ev next sm
    have htk2 : ∀ x, x < next.length → (tk2.getD x false = true ↔ Tk (L ++ [ivl next.length (Rch next) (pre next) (Tk L) h]) x) := fun x hx => by rw [hm3, htk x hx, Tk_snoc]
    obtain ⟨KH, v, gH, hv⟩ := head_ev (L := L ++ [ivl next.length (Rch next) (pre next) (Tk L) h]) sm hR (by rw [hm2]; exact htl) htk2 next.length (-1) (Nat.le_refl _)
    have hve : v = hz (hdo next.length (Rch next) (pre next) (Tk (L ++ [ivl next.length (Rch next) (pre next) (Tk L) h]))) := by
      rcases hv with ⟨i, h1, h2, h3, h4⟩ | ⟨h1, h2⟩
      · rw [hdo_least h1 h2 h3]; exact h4
      · rw [hdo_no h1]; exact h2
    obtain ⟨K, g⟩ := ih r tk2 (by rw [List.length_append, List.length_singleton]; omega) hb (by rw [hm2]; exact htl) htk2 (fun h' e => (hdo_some e).1)
    simp only at gI gR g
    rw [← hve] at g
    refine ⟨max (max K KI) (max KR KH), fun k hk => ?_⟩
    simp only [partsP]
    rw [if_pos (by show (h : Int) ≥ 0; omega)]
    simp only [hz]
    rw [gI k (by omega)]
    simp only [Option.bind_some]
    have hll : (toL L).length = L.length := by simp [toL]
    rw [hll, toI_len, if_pos ⟨by omega, by omega⟩, hm]
    simp only [Option.bind_some]
    rw [gR k (by omega)]
    simp only [Option.bind_some]
    rw [if_pos hRl, gH k (by omega)]
    simp only [Option.bind_some]
    have e : toL L ++ [toI (ivl next.length (Rch next) (pre next) (Tk L) h)] = toL (L ++ [ivl next.length (Rch next) (pre next) (Tk L) h]) := by simp [toL]
    rw [e]
    exact g k (by omega)
theorem rparts_ev (sm : Small next) (h0 : 0 < next.length) {L : List (List Nat)} (rn : Run next.length (Rch next) (pre next) [] (some 0) L) (hL : L.length ≤ next.length) : Ev (fun k => ladderbackref34_Parts.f k next) (toL L) := by
  have hn := sm.1
  obtain ⟨K, g⟩ := run_ev sm rn next.length (List.replicate next.length false) (by simp only [List.length_nil]; omega) (by omega) (by simp) (fun x hx => by
    constructor
    · intro h; simp [List.getD_eq_getElem?_getD, hx] at h
    · intro h; exact absurd h Tk_nil) (fun h e => by injection e with e; omega)
  simp only at g
  refine ⟨K, fun k hk => ?_⟩
  show ladderbackref34_Parts.f k next = some (toL L)
  unfold ladderbackref34_Parts.f
  rw [if_pos (by omega)]
  exact g k hk
end
section
variable {next : List (List Int)} {L : List (List Nat)} {of : List Int}
theorem toL_at (L : List (List Nat)) (a : Nat) (h : a < L.length) : DomA.rdL (toL L) (a : Int) = toI (L.getD a []) := by simp [DomA.rdL, toL, toI, h]
theorem toL_len (L : List (List Nat)) : (toL L).length = L.length := by simp [toL]
theorem hd_at (p : Prt next L of) {b : Nat} (hb : b < L.length) : 0 < (toI (L.getD b [])).length ∧ rd (toI (L.getD b [])) 0 = (hdl L b : Int) := by
  have h1 := p.st.head_mem hb
  unfold hdl at *
  cases hc : L.getD b [] with
  | nil => rw [hc] at h1; cases h1
  | cons x l => exact ⟨by simp [toI], by simp [rd, toI]⟩
theorem goes_ev (sm : Small next) (p : Prt next L of) {a b : Nat} (hb : b < L.length) : ∀ (l : List Nat) (g : Bool), (∀ x, x ∈ l → x < next.length) → ∃ K, ∀ k, K ≤ k → goesF k next (toL L) a b (toI l) g = some (g || (!decide (a = b) && l.any fun x => decide ((hdl L b : Int) ∈ next.getD x []))) := by
  have hn := sm.1
  intro l
  induction l with
  | nil => intro g _; exact ⟨0, fun k _ => by show some g = _; simp⟩
  | cons v l ih =>
    intro g hl
    have hv := hl v List.mem_cons_self
    have hl2 := fun x hx => hl x (List.mem_cons_of_mem v hx)
    have hrow := sm.2 v
    obtain ⟨h1, h2⟩ := hd_at p hb
    obtain ⟨KH, gH⟩ := has_ev (next.getD v []) (hdl L b : Int) (by omega)
    simp only at gH
    obtain ⟨K1, g1⟩ := ih true hl2
    obtain ⟨K2, g2⟩ := ih false hl2
    obtain ⟨K3, g3⟩ := ih (decide ((hdl L b : Int) ∈ next.getD v [])) hl2
    refine ⟨max (max K1 K2) (max K3 KH), fun k hk => ?_⟩
    show goesF k next (toL L) a b ((v : Int) :: toI l) g = _
    simp only [goesF]
    cases g with
    | true => rw [if_pos rfl, g1 k (by omega)]; simp
    | false =>
      rw [if_neg (by decide)]
      by_cases e : a = b
      · rw [if_pos e, g2 k (by omega), decide_eq_true e]; simp
      · rw [if_neg e, toL_at L b hb, if_pos ⟨by omega, by omega, h1⟩, h2, PiuInterParts.rdL_nat, gH k (by omega)]
        simp only [Option.bind_some]
        rw [g3 k (by omega), decide_eq_false e, List.any_cons]
        simp
open Classical in
/-- The rows as the document makes them. -/
noncomputable def dRow (next : List (List Int)) (L : List (List Nat)) (a n : Nat) : List Nat := (List.range n).filter fun b => decide (pre' L.length (hdl L) (ix L) (pre next) a b)
open Classical in
theorem dRow_succ (next : List (List Int)) (L : List (List Nat)) (a n : Nat) : dRow next L a (n + 1) = dRow next L a n ++ (if pre' L.length (hdl L) (ix L) (pre next) a n then [n] else []) := by
  unfold dRow
  rw [List.range_succ, List.filter_append]
  congr 1
  by_cases h : pre' L.length (hdl L) (ix L) (pre next) a n
  · rw [if_pos h, List.filter_cons_of_pos (by simpa using h)]; rfl
  · rw [if_neg h, List.filter_cons_of_neg (by simpa using h)]; rfl
open Classical in
theorem dRow_mem (next : List (List Int)) (L : List (List Nat)) (a n b : Nat) : b ∈ dRow next L a n ↔ b < n ∧ pre' L.length (hdl L) (ix L) (pre next) a b := by
  unfold dRow
  rw [List.mem_filter, List.mem_range, decide_eq_true_iff]
theorem dRow_len (next : List (List Int)) (L : List (List Nat)) (a n : Nat) : (dRow next L a n).length ≤ n := by
  unfold dRow
  refine Nat.le_trans (List.length_filter_le _ _) ?_
  simp
theorem goes_iff (p : Prt next L of) (h0 : 0 < next.length) {a b : Nat} (ha : a < L.length) (hb : b < L.length) : (false || (!decide (a = b) && (L.getD a []).any fun x => decide ((hdl L b : Int) ∈ next.getD x []))) = true ↔ pre' L.length (hdl L) (ix L) (pre next) a b := by
  have hbl := Rch.lt (p.st.hR b hb)
  rw [Bool.false_or, Bool.and_eq_true, List.any_eq_true]
  constructor
  · rintro ⟨h1, x, h2, h3⟩
    have hR := p.st.memR ha h2
    exact ⟨ha, hb, by simpa using h1, x, ⟨hR, of_decide_eq_true h3, hbl⟩, p.st.ix_eq ha h2⟩
  · rintro ⟨_, _, h1, x, h2, h3⟩
    refine ⟨by simpa using h1, x, ?_, decide_eq_true h2.2.1⟩
    have := (ix_mem ((p.cover h0).mpr h2.1)).2
    rw [h3] at this
    exact this
theorem derRow_ev (sm : Small next) (p : Prt next L of) (h0 : 0 < next.length) (hL : L.length ≤ 1000) {a : Nat} (ha : a < L.length) : ∀ (r b : Nat) (P : List (List Int)), b + r = L.length → P.length = L.length → P.getD a [] = toI (dRow next L a b) → Ev (fun k => derRow k next (toL L) a r b P) (P.set a (toI (dRow next L a L.length))) := by
  intro r
  induction r with
  | zero =>
    intro b P hb hP hx
    obtain rfl : b = L.length := by omega
    refine ⟨0, fun k _ => ?_⟩
    show some P = _
    rw [← hx]
    congr 1
    refine List.ext_getElem (by simp) fun j h1 h2 => ?_
    rw [List.getElem_set]
    split
    · rename_i e; subst e; simp [List.getD_eq_getElem?_getD, h1]
    · rfl
  | succ r ih =>
    intro b P hb hP hx
    have hbl : b < L.length := by omega
    obtain ⟨KG, gG⟩ := goes_ev sm p (a := a) hbl (L.getD a []) false (fun x hx => Rch.lt (p.st.memR ha hx))
    have hgi := goes_iff p h0 ha hbl
    generalize (false || (!decide (a = b) && (L.getD a []).any fun x => decide ((hdl L b : Int) ∈ next.getD x []))) = gb at gG hgi
    have hdl_ := dRow_len next L a b
    by_cases c : pre' L.length (hdl L) (ix L) (pre next) a b
    · have hg1 := hgi.mpr c
      subst hg1
      obtain ⟨K, g⟩ := ih (b + 1) (P.set a (toI (dRow next L a b) ++ [(b : Int)])) (by omega) (by rw [List.length_set]; exact hP) (by
        rw [PipInterParts.getDl_set _ _ _ _ (by omega), if_pos rfl, dRow_succ, if_pos c, toI_app]; rfl)
      simp only [List.set_set] at g
      refine ⟨max K KG, fun k hk => ?_⟩
      simp only [derRow]
      rw [toL_at L a ha, gG k (by omega)]
      simp only [Option.bind_some]
      rw [if_pos trivial, PiuInterParts.rdL_nat, hx, toI_len, if_pos (by omega)]
      exact g k (by omega)
    · have hg1 : gb = false := by
        cases gb with
        | true => exact absurd (hgi.mp rfl) c
        | false => rfl
      subst hg1
      obtain ⟨K, g⟩ := ih (b + 1) P (by omega) hP (by rw [dRow_succ, if_neg c, List.append_nil]; exact hx)
      simp only at g
      refine ⟨max K KG, fun k hk => ?_⟩
      simp only [derRow]
      rw [toL_at L a ha, gG k (by omega)]
      simp only [Option.bind_some]
      rw [if_neg (by decide)]
      exact g k (by omega)
theorem rderive_ev (sm : Small next) (h0 : 0 < next.length) (p : Prt next L of) {D : List (List Int)} (v : Dv next L D) (hP : Ev (fun k => ladderbackref34_Parts.f k next) (toL L)) : Ev (fun k => ladderbackref34_Derive.f k next) D := by
  have hn := sm.1
  have hLl := p.len_le h0
  have hnr := nr_le (next := next)
  have hD := v.len
  have hrow : ∀ a, a < L.length → D.getD a [] = toI (dRow next L a L.length) := by
    intro a ha
    refine rise_eq2 (v.rise a) (toI_rise L.length _) fun x => ?_
    rw [v.mem]
    unfold toI
    rw [List.mem_map]
    constructor
    · rintro ⟨b, e, hb⟩
      refine ⟨b, ?_, e.symm⟩
      exact (dRow_mem _ _ _ _ _).mpr ⟨hb.2.1, hb⟩
    · rintro ⟨b, hb, e⟩
      exact ⟨b, e.symm, ((dRow_mem _ _ _ _ _).mp hb).2⟩
  have all : ∀ (r a : Nat) (P : List (List Int)), a + r = L.length → P.length = L.length → (∀ c, c < L.length → P.getD c [] = if c < a then D.getD c [] else []) → Ev (fun k => derAll k next (toL L) r a P) D := by
    intro r
    induction r with
    | zero =>
      intro a P ha hPl hx
      refine ⟨0, fun k _ => ?_⟩
      show some P = some D
      congr 1
      refine List.ext_getElem (by omega) fun j h1 h2 => ?_
      have := hx j (by omega)
      rw [if_pos (by omega)] at this
      simpa [List.getD_eq_getElem?_getD, h1, h2] using this
    | succ r ih =>
      intro a P ha hPl hx
      have hal : a < L.length := by omega
      have hgl : (L.getD a []).length ≤ next.length := by
        have h2 : (L.getD a []).Nodup := by rw [p.st.iv a hal]; exact ivl_nodup
        exact nodup_len next.length _ h2 fun y hy => Rch.lt (p.st.memR hal hy)
      have hPa := hx a hal
      rw [if_neg (Nat.lt_irrefl _)] at hPa
      obtain ⟨K1, g1⟩ := derRow_ev sm p h0 (by omega) hal L.length 0 P (by omega) hPl (by rw [hPa]; rfl)
      obtain ⟨K2, g2⟩ := ih (a + 1) (P.set a (toI (dRow next L a L.length))) (by omega) (by rw [List.length_set]; exact hPl) (fun c hc => by
        rw [PipInterParts.getDl_set _ _ _ _ (by omega)]
        by_cases e : c = a
        · rw [if_pos e, if_pos (by omega), e, hrow a hal]
        · rw [if_neg e, hx c hc]
          by_cases e2 : c < a
          · rw [if_pos e2, if_pos (by omega)]
          · rw [if_neg e2, if_neg (by omega)])
      simp only at g1 g2
      refine ⟨max K1 K2, fun k hk => ?_⟩
      simp only [derAll]
      rw [toL_at L a hal, toI_len, if_pos (by omega), toL_len, g1 k (by omega)]
      simp only [Option.bind_some]
      exact g2 k (by omega)
  obtain ⟨KP, gP⟩ := hP
  obtain ⟨K, g⟩ := all L.length 0 (List.replicate L.length []) (by omega) (by simp) (fun c hc => by
    rw [if_neg (Nat.not_lt_zero _)]; simp [List.getD_eq_getElem?_getD, hc])
  simp only at gP g
  refine ⟨max KP K, fun k hk => ?_⟩
  show ladderbackref34_Derive.f k next = some D
  unfold ladderbackref34_Derive.f
  rw [gP k (by omega)]
  simp only [Option.bind_some]
  rw [toL_len, if_pos (by omega)]
  exact g k (by omega)
end
end Go.Proofs.Ytfiffhcpgojkhaa.PixInterParts
