/- TypingBehind: where one may come behind any instruction; plain. No condition. -/
import Derived.Test.YtfiffhcpgojkhaaPcnTypingBehind
namespace Go.Proofs.Ytfiffhcpgojkhaa.Pure
open Go.Proofs.Ytfiffhcpgojkhaa Go.Proofs.Ytfiffhcpgojkhaa.QTypingBehind Go.Proofs.Ytfiffhcpgojkhaa.PdC Go.Proofs.Ytfiffhcpgojkhaa.PcnTypingBehind Go.RowKit Go.Proofs.YtfiffhcpgojkhaaW.PrintWords Go.Proofs.YtfiffhcpgojkhaaW.PrintLast Go.Proofs.YtfiffhcpgojkhaaW.PrintMore
set_option linter.unusedSimpArgs false
set_option linter.unusedVariables false
theorem sortc {L : List Int} (h : L.length ≤ 100000) : ((slices_Sort_int_int.f L).bind fun t => (slices_Compact_int_int.f t).bind fun u => some u) = some (sc L) := by
  unfold slices_Sort_int_int.f
  rw [if_pos (by omega)]
  simp only [Option.bind_some]
  unfold slices_Compact_int_int.f
  rw [if_pos (by rw [List.length_mergeSort]; omega)]
  rfl
def Ok (l : List S44) : Prop := l.length ≤ 300 ∧ ∀ i : Nat, i < l.length → 0 ≤ (rd_T44 l (i : Int)).f1 ∧ (rd_T44 l (i : Int)).f1 ≤ 65535 ∧ ((rd_T44 l (i : Int)).f0 = 32 → (rd_T44 l (i : Int)).f1 ≤ (l.length : Int))
def mayB (x : S44) (pc t : Int) : Bool := if x.f0 = 30 then t == x.f1 else if x.f0 = 31 then (if t = pc + 1 then true else t == x.f1) else if x.f0 = 32 then (if t > pc then decide (t ≤ pc + 1 + x.f1) else false) else if x.f0 = 34 then false else t == pc + 1
def rowB (x : S44) (pc : Int) : List Int := if x.f0 = 34 then [] else if x.f0 = 30 then [x.f1] else if x.f0 = 31 then [pc + 1, x.f1] else if x.f0 = 32 then (List.range (x.f1.toNat + 1)).map (fun k : Nat => pc + 1 + (k : Int)) else [pc + 1]
theorem may_f (l : List S44) (ok : Ok l) (i : Nat) (hi : i < l.length) (t : Int) (h0 : 0 ≤ t) (h1 : t < 70000) : ladderbackref20_May.f l (i : Int) t = some (mayB (rd_T44 l (i : Int)) (i : Int) t) := by
  have h := ok.2 i hi
  have hl := ok.1
  unfold ladderbackref20_May.f mayB
  rw [if_pos (by omega), if_pos (by omega), wnext i (by omega), w64_of (by omega) (by omega)]
  generalize rd_T44 l (i : Int) = x at h
  have e1 : ((i + 1 : Nat) : Int) = (i : Int) + 1 := by omega
  rw [e1]
  repeat' split
  all_goals first | rfl | simp_all
theorem ref_ev (l : List S44) (ok : Ok l) (i : Nat) (hi : i < l.length) : Ev (fun k => ladderbackref20_Behind.f k l (i : Int)) (((List.range 70000).filter fun t : Nat => mayB (rd_T44 l (i : Int)) (i : Int) (t : Int)).map fun t : Nat => (t : Int)) := by
  have key : ∀ (r t : Nat), t + r = 70000 → Ev (fun k => ladderbackref20_Behind.l0 k l (i : Int) (((List.range t).filter fun t : Nat => mayB (rd_T44 l (i : Int)) (i : Int) (t : Int)).map fun t : Nat => (t : Int)) (t : Int)) (((List.range 70000).filter fun t : Nat => mayB (rd_T44 l (i : Int)) (i : Int) (t : Int)).map fun t : Nat => (t : Int)) := by
    intro r
    induction r with
    | zero =>
      intro t ht
      obtain rfl : t = 70000 := by omega
      refine ⟨1, fun k hk => ?_⟩
      obtain ⟨k, rfl⟩ : ∃ m, k = m + 1 := ⟨k - 1, by omega⟩
      simp only [ladderbackref20_Behind.l0]
      rw [if_neg (by omega)]
    | succ r ih =>
      intro t ht
      obtain ⟨K, g⟩ := ih (t + 1) (by omega)
      simp only at g
      refine ⟨K + 1, fun k hk => ?_⟩
      obtain ⟨k, rfl⟩ : ∃ m, k = m + 1 := ⟨k - 1, by omega⟩
      have hg := g k (by omega)
      rw [List.range_succ, List.filter_append, List.map_append] at hg
      have hlen : (((List.range t).filter fun t : Nat => mayB (rd_T44 l (i : Int)) (i : Int) (t : Int)).map fun t : Nat => (t : Int)).length ≤ t := by
        rw [List.length_map]
        refine Nat.le_trans (List.length_filter_le _ _) ?_
        simp
      simp only [ladderbackref20_Behind.l0]
      rw [if_pos (by omega), may_f l ok i hi (t : Int) (by omega) (by omega)]
      simp only [Option.bind_some]
      rw [wnext t (by omega)]
      by_cases hm : mayB (rd_T44 l (i : Int)) (i : Int) (t : Int) = true
      · rw [if_pos hm, if_pos (by omega)]
        rw [List.filter_cons_of_pos (by simpa using hm), List.filter_nil] at hg
        exact hg
      · rw [if_neg hm]
        rw [List.filter_cons_of_neg (by simpa using hm), List.filter_nil, List.map_nil, List.append_nil] at hg
        exact hg
  obtain ⟨K, g⟩ := key 70000 0 (by omega)
  simp only [List.range_zero, List.filter_nil, List.map_nil] at g
  refine ⟨K + 1, fun k hk => ?_⟩
  obtain ⟨k, rfl⟩ : ∃ m, k = m + 1 := ⟨k - 1, by omega⟩
  simp only [ladderbackref20_Behind.f]
  rw [if_neg (by omega), decide_eq_false (by omega)]
  simp only [ladderbackref20_Behind.j0, Bool.false_eq_true, if_false]
  exact g k (by omega)
theorem run_ev (pc : Int) (h0 : 0 ≤ pc) (h1 : pc ≤ 300) (n : Nat) (hn : n ≤ 70000) : ∀ (r t : Nat), t + r = n → Ev (fun k => typing_Behind.l0 k pc ((List.range t).map (fun k : Nat => pc + 1 + (k : Int))) (n : Int) (t : Int)) (sc ((List.range n).map (fun k : Nat => pc + 1 + (k : Int)))) := by
  intro r
  induction r with
  | zero =>
    intro t ht
    obtain rfl : t = n := by omega
    refine ⟨1, fun k hk => ?_⟩
    obtain ⟨k, rfl⟩ : ∃ m, k = m + 1 := ⟨k - 1, by omega⟩
    simp only [typing_Behind.l0]
    rw [if_neg (by omega)]
    exact sortc (by rw [List.length_map, List.length_range]; omega)
  | succ r ih =>
    intro t ht
    obtain ⟨K, g⟩ := ih (t + 1) (by omega)
    simp only at g
    refine ⟨K + 1, fun k hk => ?_⟩
    obtain ⟨k, rfl⟩ : ∃ m, k = m + 1 := ⟨k - 1, by omega⟩
    have hg := g k (by omega)
    rw [List.range_succ, List.map_append, List.map_cons, List.map_nil] at hg
    simp only [typing_Behind.l0]
    rw [if_pos (by omega), if_pos (by rw [List.length_map, List.length_range]; omega), w64_of (x := pc + 1) (by omega) (by omega), w64_of (x := pc + 1 + (t : Int)) (by omega) (by omega), wnext t (by omega)]
    exact hg
theorem got_ev (l : List S44) (ok : Ok l) (i : Nat) (hi : i < l.length) : Ev (fun k => typing_Behind.f k l (i : Int)) (sc (rowB (rd_T44 l (i : Int)) (i : Int))) := by
  have h := ok.2 i hi
  have hl := ok.1
  have hx : mx 0 (mn (rd_T44 l (i : Int)).f1 (l.length : Int)) = if (rd_T44 l (i : Int)).f1 ≤ (l.length : Int) then (rd_T44 l (i : Int)).f1 else (l.length : Int) := by
    unfold mx mn
    repeat' split
    all_goals omega
  obtain ⟨K, g⟩ := run_ev (i : Int) (by omega) (by omega) ((rd_T44 l (i : Int)).f1.toNat + 1) (by omega) _ 0 (Nat.zero_add _)
  simp only [List.range_zero, List.map_nil] at g
  refine ⟨K + 1, fun k hk => ?_⟩
  obtain ⟨k, rfl⟩ : ∃ m, k = m + 1 := ⟨k - 1, by omega⟩
  have hg := g k (by omega)
  simp only [typing_Behind.f]
  rw [if_neg (by omega), decide_eq_false (by omega)]
  simp only [typing_Behind.j0, Bool.false_eq_true, if_false]
  rw [if_pos (by omega), if_pos (by omega), hx]
  generalize rd_T44 l (i : Int) = x at h hg
  unfold rowB
  have e1 : wrap64 ((i : Int) + 1) = (i : Int) + 1 := w64_of (by omega) (by omega)
  by_cases c1 : x.f0 = 34
  · rw [if_pos c1, if_pos c1]
    have e0 : slices_Sort_int_int.f [] = some [] := by
      unfold slices_Sort_int_int.f
      rw [if_pos (by simp), List.mergeSort_nil]
    have h2 := sortc (L := []) (by simp)
    rw [e0] at h2 ⊢
    exact h2
  rw [if_neg c1, if_neg c1]
  by_cases c2 : x.f0 = 30
  · rw [if_pos c2, if_pos c2]; exact sortc (by simp)
  rw [if_neg c2, if_neg c2]
  by_cases c3 : x.f0 = 31
  · rw [if_pos c3, if_pos c3, e1]; exact sortc (by simp)
  rw [if_neg c3, if_neg c3]
  by_cases c4 : x.f0 = 32
  · rw [if_pos c4, if_pos c4, if_pos (h.2.2 c4)]
    have e2 : wrap64 (x.f1 + 1) = ((x.f1.toNat + 1 : Nat) : Int) := by rw [w64_of (by omega) (by omega)]; omega
    rw [e2]
    exact hg
  · rw [if_neg c4, if_neg c4, e1]; exact sortc (by simp)
theorem same (x : S44) (i : Nat) (hi : i ≤ 300) (h0 : 0 ≤ x.f1) (h1 : x.f1 ≤ 65535) : sc (rowB x (i : Int)) = ((List.range 70000).filter fun t : Nat => mayB x (i : Int) (t : Int)).map fun t : Nat => (t : Int) := by
  refine rise_eq _ _ (sc_rise _) (range_rise _ _) fun y => ?_
  rw [sc_mem]
  have e : (y ∈ ((List.range 70000).filter fun t : Nat => mayB x (i : Int) (t : Int)).map fun t : Nat => (t : Int)) ↔ 0 ≤ y ∧ y < 70000 ∧ mayB x (i : Int) y = true := by
    rw [List.mem_map]
    constructor
    · rintro ⟨t, ht, rfl⟩
      have h := List.mem_filter.mp ht
      have := List.mem_range.mp h.1
      exact ⟨by omega, by omega, h.2⟩
    · rintro ⟨a, b, c⟩
      refine ⟨y.toNat, List.mem_filter.mpr ⟨List.mem_range.mpr (by omega), ?_⟩, by omega⟩
      rw [show ((y.toNat : Nat) : Int) = y by omega]
      exact c
  rw [e]
  unfold rowB mayB
  by_cases c1 : x.f0 = 34
  · simp [c1]
  by_cases c2 : x.f0 = 30
  · simp [c2]; omega
  by_cases c3 : x.f0 = 31
  · simp [c3]; omega
  by_cases c4 : x.f0 = 32
  · simp [c4]
    constructor
    · rintro ⟨a, b, rfl⟩; omega
    · rintro ⟨a, b, c, d⟩
      exact ⟨(y - (i : Int) - 1).toNat, by omega, by omega⟩
  · simp [c1, c2, c3, c4]; omega
theorem awake_ev : Ev (fun k => ladderbacklaw20_awake.f k) true := by
  have ok : Ok [(⟨31, 3, 0⟩ : S44), ⟨34, 0, 0⟩, ⟨32, 1, 0⟩] := by
    refine ⟨by decide, fun i hi => ?_⟩
    match i, hi with
    | 0, _ => exact ⟨by decide, by decide, by decide⟩
    | 1, _ => exact ⟨by decide, by decide, by decide⟩
    | 2, _ => exact ⟨by decide, by decide, by decide⟩
  obtain ⟨K1, g1⟩ := got_ev _ ok 0 (by decide)
  obtain ⟨K2, g2⟩ := got_ev _ ok 2 (by decide)
  have e1 : sc (rowB (rd_T44 [(⟨31, 3, 0⟩ : S44), ⟨34, 0, 0⟩, ⟨32, 1, 0⟩] ((0 : Nat) : Int)) ((0 : Nat) : Int)) = [1, 3] := by
    refine rise_eq _ _ (sc_rise _) (by simp) fun y => ?_
    rw [sc_mem]
    simp [rowB, rd_T44]
  have e2 : sc (rowB (rd_T44 [(⟨31, 3, 0⟩ : S44), ⟨34, 0, 0⟩, ⟨32, 1, 0⟩] ((2 : Nat) : Int)) ((2 : Nat) : Int)) = [3, 4] := by
    refine rise_eq _ _ (sc_rise _) (by simp) fun y => ?_
    rw [sc_mem]
    simp [rowB, rd_T44]
    constructor
    · rintro ⟨a, b, rfl⟩; omega
    · rintro (rfl | rfl)
      · exact ⟨0, by omega, rfl⟩
      · exact ⟨1, by omega, rfl⟩
  rw [e1] at g1
  rw [e2] at g2
  simp only at g1 g2
  have g1' : ∀ k, K1 ≤ k → typing_Behind.f k [(⟨31, 3, 0⟩ : S44), ⟨34, 0, 0⟩, ⟨32, 1, 0⟩] 0 = some [1, 3] := g1
  have g2' : ∀ k, K2 ≤ k → typing_Behind.f k [(⟨31, 3, 0⟩ : S44), ⟨34, 0, 0⟩, ⟨32, 1, 0⟩] 2 = some [3, 4] := g2
  refine ⟨max K1 K2, fun k hk => ?_⟩
  simp only [ladderbacklaw20_awake.f]
  simp only [Option.bind_some]
  rw [g1' k (by omega)]
  simp only [Option.bind_some]
  rw [if_pos (show (([1, 3] : List Int).length : Int) = 2 from rfl), if_pos (by decide), if_pos (by decide), g2' k (by omega)]
  rfl
theorem eq_ev (l : List S44) (ok : Ok l) (pc : Int) : ∃ R, Ev (fun k => typing_Behind.f k l pc) R ∧ Ev (fun k => ladderbackref20_Behind.f k l pc) R ∧ R.length ≤ 70000 := by
  by_cases hp : 0 ≤ pc ∧ pc < (l.length : Int)
  · obtain ⟨i, rfl⟩ : ∃ i : Nat, pc = (i : Int) := ⟨pc.toNat, by omega⟩
    have hl := ok.1
    have h := ok.2 i (by omega)
    refine ⟨_, got_ev l ok i (by omega), ?_, ?_⟩
    · rw [same _ i (by omega) h.1 h.2.1]; exact ref_ev l ok i (by omega)
    · rw [same _ i (by omega) h.1 h.2.1, List.length_map]
      refine Nat.le_trans (List.length_filter_le _ _) ?_
      simp
  · refine ⟨[], ⟨1, fun k hk => ?_⟩, ⟨1, fun k hk => ?_⟩, by simp⟩
    · obtain ⟨k, rfl⟩ : ∃ m, k = m + 1 := ⟨k - 1, by omega⟩
      simp only [typing_Behind.f]
      by_cases h0 : pc < 0
      · rw [if_pos h0]; rfl
      · rw [if_neg h0, decide_eq_true (by omega)]; rfl
    · obtain ⟨k, rfl⟩ : ∃ m, k = m + 1 := ⟨k - 1, by omega⟩
      simp only [ladderbackref20_Behind.f]
      by_cases h0 : pc < 0
      · rw [if_pos h0]; rfl
      · rw [if_neg h0, decide_eq_true (by omega)]; rfl
theorem law_ev (l : List S44) (pc : Int) (hl : l.length ≤ 300) : ∀ (r i : Nat), i + r = l.length → (∀ j : Nat, j < i → 0 ≤ (rd_T44 l (j : Int)).f1 ∧ (rd_T44 l (j : Int)).f1 ≤ 65535 ∧ ((rd_T44 l (j : Int)).f0 = 32 → (rd_T44 l (j : Int)).f1 ≤ (l.length : Int))) → Ev (fun k => ladderbacklaw20_TypingBehind.l0 k l pc (i : Int)) true := by
  obtain ⟨Ka, ga⟩ := awake_ev
  simp only at ga
  intro r
  induction r with
  | zero =>
    intro i hi h
    obtain rfl : i = l.length := by omega
    obtain ⟨R, ⟨K1, g1⟩, ⟨K2, g2⟩, hR⟩ := eq_ev l ⟨hl, h⟩ pc
    obtain ⟨K3, g3⟩ := ints_ev R R (by omega)
    simp only [decide_true] at g1 g2 g3
    refine ⟨max (max Ka K1) (max K2 K3) + 1, fun k hk => ?_⟩
    obtain ⟨k, rfl⟩ : ∃ m, k = m + 1 := ⟨k - 1, by omega⟩
    simp only [ladderbacklaw20_TypingBehind.l0]
    rw [if_neg (by omega), g1 k (by omega)]
    simp only [Option.bind_some]
    rw [g2 k (by omega)]
    simp only [Option.bind_some]
    rw [g3 k (by omega)]
    simp only [Option.bind_some, if_true]
    rw [ga k (by omega)]
    rfl
  | succ r ih =>
    intro i hi h
    have quit : Ev (fun k => (ladderbacklaw20_awake.f k).bind fun t => some t) true := ⟨Ka, fun k hk => by simp only; rw [ga k hk]; rfl⟩
    by_cases hok : 0 ≤ (rd_T44 l (i : Int)).f1 ∧ (rd_T44 l (i : Int)).f1 ≤ 65535 ∧ ((rd_T44 l (i : Int)).f0 = 32 → (rd_T44 l (i : Int)).f1 ≤ (l.length : Int))
    · obtain ⟨K, g⟩ := ih (i + 1) (by omega) (fun j hj => by
        by_cases e : j = i
        · subst e; exact hok
        · exact h j (by omega))
      simp only at g
      refine ⟨K + 1, fun k hk => ?_⟩
      obtain ⟨k, rfl⟩ : ∃ m, k = m + 1 := ⟨k - 1, by omega⟩
      simp only [ladderbacklaw20_TypingBehind.l0]
      rw [if_pos (by omega), if_pos (by omega), if_neg (by omega), if_neg (by omega), wnext i (by omega)]
      by_cases c : (rd_T44 l (i : Int)).f0 = 32
      · have := hok.2.2 c
        rw [if_pos c, if_neg (by omega)]; exact g k (by omega)
      · rw [if_neg c]; exact g k (by omega)
    · refine ⟨Ka + 1, fun k hk => ?_⟩
      obtain ⟨k, rfl⟩ : ∃ m, k = m + 1 := ⟨k - 1, by omega⟩
      have hq : ((ladderbacklaw20_awake.f k).bind fun t => some t) = some true := by rw [ga k (by omega)]; rfl
      simp only [ladderbacklaw20_TypingBehind.l0]
      rw [if_pos (by omega), if_pos (by omega)]
      by_cases c1 : (rd_T44 l (i : Int)).f1 < 0
      · rw [if_pos c1]; exact hq
      rw [if_neg c1]
      by_cases c2 : (rd_T44 l (i : Int)).f1 > 65535
      · rw [if_pos c2]; exact hq
      rw [if_neg c2]
      by_cases c3 : (rd_T44 l (i : Int)).f0 = 32
      · rw [if_pos c3]
        by_cases c4 : (rd_T44 l (i : Int)).f1 > (l.length : Int)
        · rw [if_pos c4]; exact hq
        · exact absurd ⟨by omega, by omega, fun _ => by omega⟩ hok
      · exact absurd ⟨by omega, by omega, fun h => absurd h c3⟩ hok
theorem TypingBehind : ladderbacklaw20_TypingBehind.Pure := by
  intro l hw pc hp
  apply Ev.rounds
  obtain ⟨Ka, ga⟩ := awake_ev
  simp only at ga
  by_cases c : (l.length : Int) > 300
  · refine ⟨Ka, fun k hk => ?_⟩
    simp only [ladderbacklaw20_TypingBehind.f]
    rw [if_pos c, ga k hk]
    rfl
  · obtain ⟨K, g⟩ := law_ev l pc (by omega) l.length 0 (by omega) (fun j hj => by omega)
    simp only at g
    refine ⟨K, fun k hk => ?_⟩
    simp only [ladderbacklaw20_TypingBehind.f]
    rw [if_neg c]
    exact g k hk
end Go.Proofs.Ytfiffhcpgojkhaa.Pure
