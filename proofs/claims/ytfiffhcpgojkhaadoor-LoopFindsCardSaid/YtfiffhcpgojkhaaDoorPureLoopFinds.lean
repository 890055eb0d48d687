/- LoopFinds: the back edges and the loops of any graph; plain. No condition. -/
import Derived.Test.YtfiffhcpgojkhaaDoorPlbLoopFinds
namespace Go.Proofs.YtfiffhcpgojkhaaDoor.Pure
open Go.Proofs.YtfiffhcpgojkhaaDoor Go.Proofs.YtfiffhcpgojkhaaDoor.QLoopFinds Go.Proofs.YtfiffhcpgojkhaaDoor.PlbLoopFinds Go.Proofs.YtfiffhcpgojkhaaDoor.PcnLoopFinds Go.Proofs.YtfiffhcpgojkhaaDoor.PddLoopFinds Go.Proofs.YtfiffhcpgojkhaaDoor.PdfLoopFinds Go.Proofs.YtfiffhcpgojkhaaDoor.PhaLoopFinds Go.Proofs.YtfiffhcpgojkhaaDoor.DomA Go.Proofs.YtfiffhcpgojkhaaDoor.DomF Go.Proofs.YtfiffhcpgojkhaaDoor.DomP Go.Proofs.YtfiffhcpgojkhaaDoor.LoopT Go.RowKit Go.Proofs.YtfiffhcpgojkhaaDoorW.PrintWords Go.Proofs.YtfiffhcpgojkhaaDoorW.PrintLast Go.Proofs.YtfiffhcpgojkhaaDoorW.PrintMore
set_option linter.unusedSimpArgs false
set_option linter.unusedVariables false
open Classical in
noncomputable def rowD (next : List (List Int)) (i kk r : Nat) : List S29 := ((List.range' kk r).filter fun k => decide (Bk (pre next) i k)).map fun k : Nat => ⟨(i : Int), (k : Int)⟩
noncomputable def allD (next : List (List Int)) : Nat → Nat → List S29
 | _, 0 => []
 | i, r + 1 => rowD next i 0 next.length ++ allD next (i + 1) r
open Classical in
noncomputable def hdsD (next : List (List Int)) (i r : Nat) : List Int := ((List.range' i r).filter fun h => decide (Hd next h)).map fun h : Nat => (h : Int)
theorem rowD_len (next : List (List Int)) (i kk r : Nat) : (rowD next i kk r).length ≤ r := by
  unfold rowD
  rw [List.length_map]
  exact Nat.le_trans (List.length_filter_le _ _) (by simp)
theorem rowD_mem (next : List (List Int)) (i kk r : Nat) (p : S29) : p ∈ rowD next i kk r ↔ ∃ v : Nat, p = ⟨(i : Int), (v : Int)⟩ ∧ kk ≤ v ∧ v < kk + r ∧ Bk (pre next) i v := by
  classical
  unfold rowD
  simp only [List.mem_map, List.mem_filter, List.mem_range'_1, decide_eq_true_eq]
  exact ⟨fun ⟨v, ⟨⟨h1, h2⟩, h3⟩, e⟩ => ⟨v, e.symm, h1, h2, h3⟩, fun ⟨v, e, h1, h2, h3⟩ => ⟨v, ⟨⟨h1, h2⟩, h3⟩, e.symm⟩⟩
theorem rowD_rise (next : List (List Int)) (i kk r : Nat) : ((rowD next i kk r).map pr).Pairwise PdP.L2 := by
  classical
  unfold rowD
  rw [List.map_map, List.pairwise_map]
  refine (List.Pairwise.filter _ (List.pairwise_lt_range' (s := kk) (n := r))).imp fun h => ?_
  exact .inr ⟨rfl, by simp only [Function.comp, pr]; omega⟩
theorem allD_mem (next : List (List Int)) (p : S29) : ∀ r i, p ∈ allD next i r ↔ ∃ u v : Nat, p = ⟨(u : Int), (v : Int)⟩ ∧ i ≤ u ∧ u < i + r ∧ v < next.length ∧ Bk (pre next) u v := by
  intro r
  induction r with
  | zero => intro i; simp only [allD, List.not_mem_nil, false_iff]; rintro ⟨u, v, _, h1, h2, _⟩; omega
  | succ r ih =>
    intro i
    rw [allD, List.mem_append, ih, rowD_mem]
    constructor
    · rintro (⟨v, e, h1, h2, h3⟩ | ⟨u, v, e, h1, h2, h3⟩)
      · exact ⟨i, v, e, Nat.le_refl _, by omega, by omega, h3⟩
      · exact ⟨u, v, e, by omega, by omega, h3⟩
    · rintro ⟨u, v, e, h1, h2, h3, h4⟩
      by_cases c : u = i
      · subst c; exact .inl ⟨v, e, by omega, by omega, h4⟩
      · exact .inr ⟨u, v, e, by omega, by omega, h3, h4⟩
theorem allD_rise (next : List (List Int)) : ∀ r i, ((allD next i r).map pr).Pairwise PdP.L2 := by
  intro r
  induction r with
  | zero => intro i; simp [allD]
  | succ r ih =>
    intro i
    rw [allD, List.map_append, List.pairwise_append]
    refine ⟨rowD_rise next i 0 next.length, ih (i + 1), fun x hx y hy => ?_⟩
    obtain ⟨p, hp, rfl⟩ := List.mem_map.mp hx
    obtain ⟨q, hq, rfl⟩ := List.mem_map.mp hy
    obtain ⟨v, rfl, _⟩ := (rowD_mem next i 0 next.length p).mp hp
    obtain ⟨u, w, rfl, h1, _⟩ := (allD_mem next q r (i + 1)).mp hq
    exact .inl (by simp only [pr]; omega)
theorem un_pr (l : List S29) : (l.map pr).map un = l := by
  rw [List.map_map]
  exact (List.map_congr_left (fun x _ => rfl)).trans (List.map_id l)
section
variable {next : List (List Int)} (sm : Small next) (h16 : next.length ≤ 16)
include sm h16
theorem l1_ev (hds : List Int) (i : Nat) (hi : i < next.length) : ∀ (r kk : Nat) (acc : List S29), kk + r = next.length → acc.length + r ≤ 1000000 → ∀ res, Ev (fun k => ladderbacklaw33_LoopFinds.l0 k next (acc ++ rowD next i kk r) hds (wrap64 ((i : Int) + 1))) res → Ev (fun k => ladderbacklaw33_LoopFinds.l1 k next acc hds (i : Int) (kk : Int)) res := by
  classical
  intro r
  induction r with
  | zero =>
    rintro kk acc hk ha res ⟨K, g⟩
    simp only at g
    refine ⟨K + 1, fun k hk => ?_⟩
    obtain ⟨k, rfl⟩ : ∃ q, k = q + 1 := ⟨k - 1, by omega⟩
    simp only [ladderbacklaw33_LoopFinds.l1]
    rw [if_neg (by omega)]
    have := g k (by omega)
    simpa [rowD] using this
  | succ r ih =>
    intro kk acc hk ha res hres
    have hwn := PdC.wnext kk (by omega)
    have p1 : (kk : Int) < (next.length : Int) := by omega
    obtain ⟨K2, g2⟩ := back_ev next sm i kk hi (by omega)
    simp only at g2
    by_cases c : Bk (pre next) i kk
    · have e : rowD next i kk (r + 1) = ⟨(i : Int), (kk : Int)⟩ :: rowD next i (kk + 1) r := by
        unfold rowD
        rw [List.range'_succ, List.filter_cons, if_pos (by simpa using c)]
        rfl
      rw [e] at hres
      obtain ⟨K, g⟩ := ih (kk + 1) (acc ++ [⟨(i : Int), (kk : Int)⟩]) (by omega) (by rw [List.length_append]; simp only [List.length_cons, List.length_nil]; omega) res (by rw [List.append_assoc]; exact hres)
      simp only at g
      refine ⟨max K K2 + 1, fun k hk => ?_⟩
      obtain ⟨k, rfl⟩ : ∃ q, k = q + 1 := ⟨k - 1, by clear hwn; omega⟩
      simp only [ladderbacklaw33_LoopFinds.l1]
      rw [if_pos p1, g2 k (by clear hwn; omega)]
      simp only [Option.bind_some]
      rw [if_pos (by simpa using c), if_pos (by clear hwn; omega), hwn]
      exact g k (by clear hwn; omega)
    · have e : rowD next i kk (r + 1) = rowD next i (kk + 1) r := by
        unfold rowD
        rw [List.range'_succ, List.filter_cons, if_neg (by simpa using c)]
      rw [e] at hres
      obtain ⟨K, g⟩ := ih (kk + 1) acc (by omega) (by omega) res hres
      simp only at g
      refine ⟨max K K2 + 1, fun k hk => ?_⟩
      obtain ⟨k, rfl⟩ : ∃ q, k = q + 1 := ⟨k - 1, by clear hwn; omega⟩
      simp only [ladderbacklaw33_LoopFinds.l1]
      rw [if_pos p1, g2 k (by clear hwn; omega)]
      simp only [Option.bind_some]
      rw [if_neg (by simpa using c), hwn]
      exact g k (by clear hwn; omega)
theorem l0_ev : ∀ (r i : Nat) (acc : List S29) (hds : List Int), i + r = next.length → acc.length + r * 16 ≤ 1000 → hds.length + r ≤ 1000 → ∀ res, Ev (fun k => (loop_Backs.f k next).bind fun t216 => (loop_Find.f k next).bind fun t219 => (if (t216.length : Int) = ((acc ++ allD next i r).length : Int) then (ladderbacklaw33_LoopFinds.j3 k next (acc ++ allD next i r) (hds ++ hdsD next i r) t216 t219 ((t219.length : Int) != ((hds ++ hdsD next i r).length : Int))) else (ladderbacklaw33_LoopFinds.j3 k next (acc ++ allD next i r) (hds ++ hdsD next i r) t216 t219 true))) res →
    Ev (fun k => ladderbacklaw33_LoopFinds.l0 k next acc hds (i : Int)) res := by
  classical
  intro r
  induction r with
  | zero =>
    rintro i acc hds hi ha hh res ⟨K, g⟩
    simp only at g
    refine ⟨K + 1, fun k hk => ?_⟩
    obtain ⟨k, rfl⟩ : ∃ q, k = q + 1 := ⟨k - 1, by omega⟩
    simp only [ladderbacklaw33_LoopFinds.l0]
    rw [if_neg (by omega)]
    have := g k (by omega)
    simp only [allD, hdsD, List.range'_zero, List.filter_nil, List.map_nil, List.append_nil] at this
    exact this
  | succ r ih =>
    intro i acc hds hi ha hh res hres
    have hwn := PdC.wnext i (by omega)
    have p1 : (i : Int) < (next.length : Int) := by omega
    have hrl := rowD_len next i 0 next.length
    obtain ⟨K2, g2⟩ := rbody_ev next sm (by omega) i (by omega)
    simp only at g2
    by_cases c : Hd next i
    · have e : hdsD next i (r + 1) = (i : Int) :: hdsD next (i + 1) r := by
        unfold hdsD
        rw [List.range'_succ, List.filter_cons, if_pos (by simpa using c)]
        rfl
      have hpos : 0 < (lbl next i).length := by
        refine List.length_pos_of_mem (a := (i : Int)) ?_
        unfold lbl
        simp only [List.mem_map, List.mem_filter, List.mem_range, decide_eq_true_eq]
        exact ⟨i, ⟨by omega, .inl rfl⟩, rfl⟩
      rw [allD, e] at hres
      have h1 := ih (i + 1) (acc ++ rowD next i 0 next.length) (hds ++ [(i : Int)]) (by omega) (by rw [List.length_append]; omega) (by rw [List.length_append]; simp only [List.length_cons, List.length_nil]; omega) res (by
        rw [List.append_assoc, List.append_assoc]; exact hres)
      rw [← hwn] at h1
      obtain ⟨K, g⟩ := l1_ev sm h16 (hds ++ [(i : Int)]) i (by omega) next.length 0 acc (by omega) (by omega) res h1
      simp only at g
      refine ⟨max K K2 + 2, fun k hk => ?_⟩
      obtain ⟨k, rfl⟩ : ∃ q, k = q + 2 := ⟨k - 2, by clear hwn h1; omega⟩
      simp only [ladderbacklaw33_LoopFinds.l0]
      rw [if_pos p1, g2 (k + 1) (by clear hwn h1; omega)]
      simp only [Option.bind_some]
      rw [if_pos c, if_pos (by clear hwn h1; omega), if_pos (by clear hwn h1; omega)]
      simp only [ladderbacklaw33_LoopFinds.j1]
      exact g k (by clear hwn h1; omega)
    · have e : hdsD next i (r + 1) = hdsD next (i + 1) r := by
        unfold hdsD
        rw [List.range'_succ, List.filter_cons, if_neg (by simpa using c)]
      rw [allD, e] at hres
      have h1 := ih (i + 1) (acc ++ rowD next i 0 next.length) hds (by omega) (by rw [List.length_append]; omega) (by omega) res (by
        rw [List.append_assoc]; exact hres)
      rw [← hwn] at h1
      obtain ⟨K, g⟩ := l1_ev sm h16 hds i (by omega) next.length 0 acc (by omega) (by omega) res h1
      simp only at g
      refine ⟨max K K2 + 2, fun k hk => ?_⟩
      obtain ⟨k, rfl⟩ : ∃ q, k = q + 2 := ⟨k - 2, by clear hwn h1; omega⟩
      simp only [ladderbacklaw33_LoopFinds.l0]
      rw [if_pos p1, g2 (k + 1) (by clear hwn h1; omega)]
      simp only [Option.bind_some]
      rw [if_neg c, if_neg (by simp)]
      simp only [ladderbacklaw33_LoopFinds.j1]
      exact g k (by clear hwn h1; omega)
end
theorem l2_ev (next : List (List Int)) (B : List S29) (hds : List Int) (out : List S35) (hB : B.length ≤ 1000000) : ∀ (r j : Nat), j + r = B.length → ∀ res, Ev (fun k => ladderbacklaw33_LoopFinds.l3 k next hds out 0) res → Ev (fun k => ladderbacklaw33_LoopFinds.l2 k next B hds B out (j : Int)) res := by
  intro r
  induction r with
  | zero =>
    rintro j hj res ⟨K, g⟩
    simp only at g
    refine ⟨K + 1, fun k hk => ?_⟩
    obtain ⟨k, rfl⟩ : ∃ q, k = q + 1 := ⟨k - 1, by omega⟩
    simp only [ladderbacklaw33_LoopFinds.l2]
    rw [if_neg (by omega)]
    exact g k (by omega)
  | succ r ih =>
    intro j hj res hres
    have hwn := PdC.wnext j (by omega)
    have p1 : (j : Int) < (B.length : Int) := by omega
    obtain ⟨K, g⟩ := ih (j + 1) (by omega) res hres
    simp only at g
    refine ⟨K + 1, fun k hk => ?_⟩
    obtain ⟨k, rfl⟩ : ∃ q, k = q + 1 := ⟨k - 1, by clear hwn; omega⟩
    simp only [ladderbacklaw33_LoopFinds.l2]
    rw [if_pos p1, if_pos (Int.natCast_nonneg j), if_pos p1, if_pos trivial, if_pos trivial, hwn]
    exact g k (by clear hwn; omega)
theorem f0_at (l : List S35) (k : Nat) : (rd_T35 l (k : Int)) = l.getD k z35 := by simp [rd_T35]
section
variable {next : List (List Int)} (sm : Small next) (h16 : next.length ≤ 16) (out : List S35) (hol : out.length ≤ 24) (hod : (out.map fun y => y.f0) = heads next) (hy : ∀ y ∈ out, ∃ h : Nat, y.f0 = (h : Int) ∧ Hd next h ∧ Bd next h y.f1)
  (hf2 : ∀ i, i < out.length → (out.getD i z35).f2 = leastS (out.map fun y => y.f1) (out.getD i z35).f0 (i : Int))
include sm h16 hol hod hy hf2
theorem l4_ev (i : Nat) (hi : i < out.length) : ∀ (r j : Nat) (best : Int), j + r = out.length → -1 ≤ best → best < (j : Int) → lrun (out.map fun y => y.f1) (out.getD i z35).f0 (i : Int) r j best = leastS (out.map fun y => y.f1) (out.getD i z35).f0 (i : Int) →
    ∀ res, Ev (fun k => ladderbacklaw33_LoopFinds.l3 k next (heads next) out (wrap64 ((i : Int) + 1))) res → Ev (fun k => ladderbacklaw33_LoopFinds.l4 k next (heads next) out (i : Int) best (j : Int)) res := by
  have hbd : ∀ j, ((out.map fun y => y.f1).getD j []).length ≤ 24 := by
    intro j
    by_cases c : j < out.length
    · have e : (out.map fun y => y.f1).getD j [] = out[j].f1 := by simp [List.getD_eq_getElem?_getD, c]
      obtain ⟨h, _, _, hb⟩ := hy out[j] (List.getElem_mem c)
      rw [e]; exact hb.1
    · have e : (out.map fun y => y.f1).getD j [] = [] := by simp [List.getD_eq_getElem?_getD, c]
      rw [e]; simp
  intro r
  induction r with
  | zero =>
    intro j best hj h0 h1 hl res hres
    simp only [lrun] at hl
    have hget : out.getD i z35 = out[i] := by simp [List.getD_eq_getElem?_getD, hi]
    have hlen : (heads next).length = out.length := by rw [← hod, List.length_map]
    have ehd : rd (heads next) (i : Int) = (out.getD i z35).f0 := by
      rw [PdC.rd_nat, ← hod]
      simp [List.getD_eq_getElem?_getD, hi]
    obtain ⟨h, e0, hh, hb⟩ := hy out[i] (List.getElem_mem hi)
    rw [← hget] at e0 hb
    obtain ⟨K1, g1⟩ := rbody_ev next sm (by omega) h hh.lt
    have hb24 := hb.1
    obtain ⟨K2, g2⟩ := ints_ev (out.getD i z35).f1 (lbl next h) (by omega)
    obtain ⟨K3, g3⟩ := hres
    simp only at g1 g2 g3
    refine ⟨max K1 (max K2 K3) + 1, fun k hk => ?_⟩
    obtain ⟨k, rfl⟩ : ∃ q, k = q + 1 := ⟨k - 1, by omega⟩
    have gk1 := g1 k (by omega)
    have gk2 := g2 k (by omega)
    have gk3 := g3 k (by omega)
    simp only [ladderbacklaw33_LoopFinds.l4]
    rw [if_neg (by omega), if_pos (Int.natCast_nonneg i), if_pos (by omega), if_pos (by omega), f0_at, if_pos (by rw [ehd]), ehd, e0, gk1]
    simp only [Option.bind_some]
    rw [if_pos hh, gk2]
    simp only [Option.bind_some]
    rw [if_pos (by simpa using lbl_bd next h _ hb), if_pos (by rw [hf2 i hi, hl])]
    exact gk3
  | succ r ih =>
    intro j best hj h0 h1 hl res hres
    have hlt : j < out.length := by omega
    have hwn := PdC.wnext j (by omega)
    have p1 : (j : Int) < (out.length : Int) := Int.ofNat_lt.mpr hlt
    have p2 : (0 : Int) ≤ (j : Int) := Int.natCast_nonneg j
    have p3 : (i : Int) < (out.length : Int) := Int.ofNat_lt.mpr hi
    simp only [lrun] at hl
    generalize hx : (out.getD i z35).f0 = x at hl ih
    have hlow : -1 ≤ lstep (out.map fun y => y.f1) x (i : Int) j best := by
      unfold lstep
      split
      · exact h0
      · split
        · split
          · omega
          · split <;> omega
        · exact h0
    obtain ⟨K, g⟩ := ih (j + 1) (lstep (out.map fun y => y.f1) x (i : Int) j best) (by omega) hlow (lstep_lt _ _ _ _ _ h1) hl res hres
    simp only at g
    have hsj := hbd j
    obtain ⟨K2, g2⟩ := has_ev ((out.map fun y => y.f1).getD j []) x (by omega)
    simp only at g2
    have hb3 : best < (out.length : Int) := by omega
    refine ⟨max K K2 + 1, fun k hk => ?_⟩
    obtain ⟨k, rfl⟩ : ∃ q, k = q + 1 := ⟨k - 1, by clear hwn; omega⟩
    have gk := g k (by clear hwn; omega)
    have gk2 := g2 k (by clear hwn; omega)
    simp only [ladderbacklaw33_LoopFinds.l4]
    rw [if_pos p1, hwn]
    unfold lstep at gk
    by_cases e : (j : Int) = (i : Int)
    · rw [if_pos e] at gk ⊢
      exact gk
    · rw [if_neg e] at gk ⊢
      rw [if_pos p2, if_pos (Int.natCast_nonneg i), if_pos p3, f1_at, f0_at, hx, gk2]
      simp only [Option.bind_some]
      by_cases hm : x ∈ (out.map fun y => y.f1).getD j []
      · rw [if_pos hm] at gk
        rw [if_pos (by simpa using hm)]
        by_cases hneg : best < 0
        · rw [if_pos hneg] at gk ⊢
          exact gk
        · rw [if_neg hneg] at gk ⊢
          obtain ⟨b, rfl⟩ : ∃ b : Nat, best = (b : Int) := ⟨best.toNat, by clear hwn; omega⟩
          rw [if_pos (Int.natCast_nonneg b), if_pos hb3, f1_at]
          rw [Int.toNat_natCast] at gk
          by_cases hc : ((out.map fun y => y.f1).getD j []).length < ((out.map fun y => y.f1).getD b []).length
          · rw [if_pos hc] at gk
            rw [if_pos (Int.ofNat_lt.mpr hc)]; exact gk
          · rw [if_neg hc] at gk
            rw [if_neg (fun h => hc (Int.ofNat_lt.mp h))]; exact gk
      · rw [if_neg hm] at gk
        rw [if_neg (by simpa using hm)]; exact gk
theorem l3_ev : ∀ (r i : Nat), i + r = out.length → Ev (fun k => ladderbacklaw33_LoopFinds.l3 k next (heads next) out (i : Int)) true := by
  intro r
  induction r with
  | zero =>
    intro i hi
    obtain ⟨K, g⟩ := awake_ev
    simp only at g
    refine ⟨K + 1, fun k hk => ?_⟩
    obtain ⟨k, rfl⟩ : ∃ q, k = q + 1 := ⟨k - 1, by omega⟩
    simp only [ladderbacklaw33_LoopFinds.l3]
    rw [if_neg (by omega), g k (by omega)]
    rfl
  | succ r ih =>
    intro i hi
    have hwn := PdC.wnext i (by omega)
    have h1 := ih (i + 1) (by omega)
    rw [← hwn] at h1
    obtain ⟨K, g⟩ := l4_ev sm h16 out hol hod hy hf2 i (by clear hwn h1; omega) out.length 0 (-1) (by omega) (by omega) (by omega) (by simp only [leastS, List.length_map]) true h1
    simp only at g
    refine ⟨K + 1, fun k hk => ?_⟩
    obtain ⟨k, rfl⟩ : ∃ q, k = q + 1 := ⟨k - 1, by clear hwn h1; omega⟩
    simp only [ladderbacklaw33_LoopFinds.l3]
    rw [if_pos (by clear hwn h1; omega)]
    exact g k (by clear hwn h1; omega)
end
theorem LoopFinds : ladderbacklaw33_LoopFinds.Pure := by
  classical
  intro next _
  obtain ⟨b, ⟨Kf, gf⟩, hb⟩ := few_ev next 16 (by omega)
  simp only at gf
  cases b with
  | false =>
    obtain ⟨Ka, ga⟩ := awake_ev
    simp only at ga
    refine ⟨max Kf Ka, ?_⟩
    simp only [ladderbacklaw33_LoopFinds.f]
    have := gf (max Kf Ka) (by omega)
    rw [show ((16 : Nat) : Int) = 16 from rfl] at this
    rw [this]
    simp only [Option.bind_some]
    rw [if_neg (by decide), ga _ (by omega)]
    rfl
  | true =>
    obtain ⟨h16, h40⟩ := hb rfl
    have sm : Small next := small_of (most := 16) (by omega) ⟨h16, h40⟩
    obtain ⟨B, ⟨K1, g1⟩, hBl, hBr, hBm⟩ := backs_all next sm (by omega)
    obtain ⟨out, ⟨K2, g2⟩, hod, hol, hy, hf2⟩ := find_all next sm (by omega)
    simp only at g1 g2
    have eB : B = allD next 0 next.length := by
      rw [← un_pr B, ← un_pr (allD next 0 next.length)]
      congr 1
      refine PdP.rise_eq _ _ hBr (allD_rise next _ _) fun x => ?_
      simp only [List.mem_map]
      have key : ∀ p, p ∈ B ↔ p ∈ allD next 0 next.length := by
        intro p
        rw [hBm, allD_mem]
        constructor
        · rintro ⟨u, v, e, hk⟩
          exact ⟨u, v, e, Nat.zero_le _, by have := Rch.lt hk.1.1; omega, hk.1.2.2, hk⟩
        · rintro ⟨u, v, e, _, _, _, hk⟩
          exact ⟨u, v, e, hk⟩
      exact ⟨fun ⟨p, hp, e⟩ => ⟨p, (key p).mp hp, e⟩, fun ⟨p, hp, e⟩ => ⟨p, (key p).mpr hp, e⟩⟩
    have eh : hdsD next 0 next.length = heads next := by
      unfold hdsD heads
      rw [List.range_eq_range']
    have hol2 : out.length = (heads next).length := by rw [← hod, List.length_map]
    obtain ⟨K3, g3⟩ := l2_ev next B (heads next) out hBl B.length 0 (by omega) true (l3_ev sm h16 out hol hod hy hf2 out.length 0 (by omega))
    simp only at g3
    obtain ⟨K4, g4⟩ := l0_ev sm h16 next.length 0 [] [] (by omega) (by simp; omega) (by simp; omega) true ⟨max K1 (max K2 (K3 + 1)), fun k hk => by
      obtain ⟨k, rfl⟩ : ∃ q, k = q + 1 := ⟨k - 1, by omega⟩
      rw [List.nil_append, List.nil_append, ← eB, eh]
      simp only
      rw [g1 (k + 1) (by omega)]
      simp only [Option.bind_some]
      rw [g2 (k + 1) (by omega)]
      simp only [Option.bind_some]
      rw [if_pos trivial]
      have e : ((out.length : Int) != ((heads next).length : Int)) = false := by simp [hol2]
      rw [e]
      simp only [ladderbacklaw33_LoopFinds.j3]
      rw [if_neg (by decide)]
      exact g3 k (by omega)⟩
    simp only at g4
    refine ⟨max Kf K4, ?_⟩
    simp only [ladderbacklaw33_LoopFinds.f]
    have := gf (max Kf K4) (by omega)
    rw [show ((16 : Nat) : Int) = 16 from rfl] at this
    rw [this]
    simp only [Option.bind_some]
    rw [if_pos trivial]
    exact g4 _ (by omega)
end Go.Proofs.YtfiffhcpgojkhaaDoor.Pure
