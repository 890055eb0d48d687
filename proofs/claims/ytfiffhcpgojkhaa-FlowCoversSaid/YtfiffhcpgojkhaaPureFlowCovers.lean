/- FlowCovers: each place that is met is in just one block; only a block's last place goes elsewhere than to the next one; plain. No condition. -/
import Derived.Test.YtfiffhcpgojkhaaPfnFlowCovers
import Derived.Test.YtfiffhcpgojkhaaPcnFlowCovers
namespace Go.Proofs.Ytfiffhcpgojkhaa.Pure
open Go.Proofs.Ytfiffhcpgojkhaa Go.Proofs.Ytfiffhcpgojkhaa.QFlowCovers Go.Proofs.Ytfiffhcpgojkhaa.PdC Go.Proofs.Ytfiffhcpgojkhaa.PflFlowCovers Go.Proofs.Ytfiffhcpgojkhaa.PfnFlowCovers Go.Proofs.Ytfiffhcpgojkhaa.PcnFlowCovers Go.RowKit Go.Proofs.YtfiffhcpgojkhaaW.PrintWords Go.Proofs.YtfiffhcpgojkhaaW.PrintLast Go.Proofs.YtfiffhcpgojkhaaW.PrintMore
set_option linter.unusedSimpArgs false
set_option linter.unusedVariables false
/-- Is a place in the block of a head? -/
def inB (l : List S44) (H : List Int) (pc : Nat) (f : Int) : Bool := decide (f ≤ (pc : Int) ∧ pc < toN l H f.toNat)
theorem block_R {l : List S44} {M : List Bool} (h : Fk l M) {f : Int} (hf : f ∈ hd l M) {pc : Nat} (hb : inB l (hd l M) pc f = true) : Rc l pc ∧ (∀ s : Nat, f < (s : Int) → s ≤ pc → (s : Int) ∉ hd l M) ∧ (pc + 1 < toN l (hd l M) f.toNat → fa (ins l pc).f0 = false) := by
  obtain ⟨u, rfl, hur⟩ := hd_R h hf
  have hult := hur.lt
  obtain ⟨b1, b2, b3, b4⟩ := to_spec h (l.length + 1) (u + 1) (by omega) (by omega) (by simpa using hur)
  have hb := of_decide_eq_true hb
  rw [Int.toNat_natCast] at hb ⊢
  have e : toN l (hd l M) u = toF l (hd l M) (l.length + 1) (u + 1) := rfl
  rw [e] at hb ⊢
  refine ⟨?_, fun s h1 h2 => (b4 s (by omega) (by omega)).2.1, fun h3 => ?_⟩
  · by_cases hp : pc = u
    · subst hp; exact hur
    · exact (b4 pc (by omega) (by omega)).2.2
  · have := (b4 (pc + 1) (by omega) h3).1
    simpa using this
theorem zero_in {l : List S44} {M : List Bool} (h : Fk l M) : (0 : Int) ∈ hd l M := (hd_mem h 0).mpr (Or.inl rfl)
theorem block_some {l : List S44} {M : List Bool} (h : Fk l M) : ∀ pc : Nat, Rc l pc → ∃ f ∈ hd l M, inB l (hd l M) pc f = true := by
  intro pc
  induction pc with
  | zero =>
    intro hr
    obtain ⟨b1, _⟩ := to_spec h (l.length + 1) (0 + 1) (by omega) (by omega) (by simpa using hr)
    exact ⟨0, zero_in h, decide_eq_true ⟨by omega, b1⟩⟩
  | succ pc ih =>
    intro hr
    by_cases hm : ((pc + 1 : Nat) : Int) ∈ hd l M
    · obtain ⟨b1, _⟩ := to_spec h (l.length + 1) (pc + 1 + 1) (by omega) (by omega) (by simpa using hr)
      exact ⟨_, hm, decide_eq_true ⟨by omega, by rw [Int.toNat_natCast]; exact b1⟩⟩
    · have key : Rc l pc ∧ fa (ins l pc).f0 = false := by
        generalize he : pc + 1 = q at hr hm
        cases hr with
        | root _ => omega
        | @step i _ h1 h2 h3 =>
          cases c : fa (ins l i).f0 with
          | true => exact absurd ((hd_mem h _).mpr (Or.inr ⟨i, h1, c, h2⟩)) hm
          | false =>
            rw [gs_near c, List.mem_singleton] at h2
            obtain rfl : i = pc := by omega
            exact ⟨h1, c⟩
      obtain ⟨f, hf, hb⟩ := ih key.1
      obtain ⟨u, rfl, hur⟩ := hd_R h hf
      have hult := hur.lt
      obtain ⟨b1, b2, b3, b4⟩ := to_spec h (l.length + 1) (u + 1) (by omega) (by omega) (by simpa using hur)
      have hb := of_decide_eq_true hb
      rw [Int.toNat_natCast] at hb
      have e : toN l (hd l M) u = toF l (hd l M) (l.length + 1) (u + 1) := rfl
      rw [e] at hb
      refine ⟨(u : Int), hf, decide_eq_true ⟨by omega, ?_⟩⟩
      rw [Int.toNat_natCast, e]
      by_cases hq : toF l (hd l M) (l.length + 1) (u + 1) = pc + 1
      · rw [hq] at b3
        rcases b3 with b3 | b3
        · rw [show pc + 1 - 1 = pc by omega, key.2] at b3; cases b3
        · exact absurd b3 hm
      · omega
/-- How many blocks a place is in. -/
theorem block_n {l : List S44} {M : List Bool} (h : Fk l M) (pc : Nat) (hpc : pc < l.length) : ((hd l M).filter (inB l (hd l M) pc)).length = if M.getD pc false = true then 1 else 0 := by
  by_cases hr : Rc l pc
  · rw [if_pos ((h.rc pc hpc).mpr hr)]
    obtain ⟨f, hf, hb⟩ := block_some h pc hr
    have e : (hd l M).filter (inB l (hd l M) pc) = [f] := by
      refine rise_eq _ _ (List.Pairwise.filter _ (sc_rise _)) (by simp) fun y => ?_
      rw [List.mem_filter, List.mem_singleton]
      constructor
      · rintro ⟨hy, hyb⟩
        obtain ⟨u, rfl, _⟩ := hd_R h hf
        obtain ⟨v, rfl, _⟩ := hd_R h hy
        have h1 := (of_decide_eq_true hb).1
        have h2 := (of_decide_eq_true hyb).1
        by_cases c1 : (v : Int) < (u : Int)
        · exact absurd hf ((block_R h hy hyb).2.1 u c1 (by omega))
        · by_cases c2 : (u : Int) < (v : Int)
          · exact absurd hy ((block_R h hf hb).2.1 v c2 (by omega))
          · omega
      · rintro rfl; exact ⟨hf, hb⟩
    rw [e]; rfl
  · rw [if_neg (fun hm => hr ((h.rc pc hpc).mp hm)), List.length_eq_zero_iff, List.filter_eq_nil_iff]
    intro f hf hb
    exact hr (block_R h hf hb).1
theorem rdN (l : List S44) (H : List Int) (c : Nat) (hc : c < H.length) : rd_T39 (nodesL l H) (c : Int) = node l H (rd H (c : Int)) := by
  simp [rd_T39, nodesL, rd, List.getD_eq_getElem?_getD, hc]
theorem Goes_ev {l : List S44} {M : List Bool} (h : Fk l M) (pc : Nat) (hpc : pc < l.length) : Ev (fun k => flow_Goes.f k l (pc : Int)) (gs l pc) := by
  obtain ⟨b, ⟨K1, g1⟩, hb⟩ := jumps_ev l h.lm
  obtain rfl : b = true := hb.mpr h.jo
  obtain ⟨K2, g2⟩ := goes_ev l h.lm h.jo pc hpc
  simp only at g1 g2
  refine ⟨max K1 K2, fun k hk => ?_⟩
  simp only [flow_Goes.f]
  rw [if_neg (by omega), if_neg (by omega), g1 k (by omega)]
  simp only [Option.bind_some, if_true]
  rw [g2 k (by omega)]
  rfl
theorem in_ev {l : List S44} {M : List Bool} (h : Fk l M) (pc : Nat) (hpc : pc < l.length) (hgo : Ev (fun k => ladderbacklaw30_FlowCovers.l0 k l M (nodesL l (hd l M)) ((pc + 1 : Nat) : Int)) true) :
    ∀ r c : Nat, c + r = (hd l M).length → Ev (fun k => ladderbacklaw30_FlowCovers.l1 k l M (nodesL l (hd l M)) (pc : Int) ((((hd l M).take c).filter (inB l (hd l M) pc)).length : Int) (c : Int)) true := by
  have hl := h.lm.1
  have hHl := hd_len h
  have hML := h.len
  have hNl : (nodesL l (hd l M)).length = (hd l M).length := by simp [nodesL]
  intro r
  induction r with
  | zero =>
    intro c hc
    obtain rfl : c = (hd l M).length := by omega
    obtain ⟨K, g⟩ := hgo
    simp only at g
    refine ⟨K + 1, fun k hk => ?_⟩
    obtain ⟨k, rfl⟩ : ∃ m, k = m + 1 := ⟨k - 1, by omega⟩
    have hrd : rdOf false M (pc : Int) = M.getD pc false := by simp [rdOf]
    simp only [ladderbacklaw30_FlowCovers.l1]
    rw [if_neg (by omega), if_pos (by omega), if_pos (by omega), List.take_length, block_n h pc hpc, hrd, wnext pc (by omega)]
    cases M.getD pc false with
    | true =>
      rw [if_pos rfl, if_neg (by simp), if_neg (by simp)]
      exact g k (by omega)
    | false =>
      rw [if_neg (by simp), if_neg (by simp)]
      exact g k (by omega)
  | succ r ih =>
    intro c hc
    obtain ⟨K, g⟩ := ih (c + 1) (by omega)
    simp only at g
    have hf := rd_mem (hd l M) c (by omega)
    have hlen : (((hd l M).take c).filter (inB l (hd l M) pc)).length ≤ 30000 := by
      refine Nat.le_trans (List.length_filter_le _ _) ?_
      rw [List.length_take]; omega
    obtain ⟨u, hu, hur⟩ := hd_R h hf
    have hult := hur.lt
    obtain ⟨b1, b2, b3, b4⟩ := to_spec h (l.length + 1) (u + 1) (by omega) (by omega) (by simpa using hur)
    have htl : toN l (hd l M) u ≤ l.length := by have := b2.lt; unfold toN; omega
    rw [take_rd (hd l M) c (by omega), List.filter_append, List.length_append] at g
    rw [hu] at hf
    have e0 : rd_T39 (nodesL l (hd l M)) (c : Int) = ⟨(u : Int), (toN l (hd l M) u : Int), (gs l (toN l (hd l M) u - 1)).map fun x => (pos (hd l M) x : Int)⟩ := by
      rw [rdN _ _ _ (by omega), hu]; simp [node]
    by_cases hb : inB l (hd l M) pc (u : Int) = true
    · have hb1 := of_decide_eq_true hb
      rw [Int.toNat_natCast] at hb1
      rw [hu, List.filter_cons_of_pos hb, List.filter_nil] at g
      simp only [List.length_cons, List.length_nil] at g
      have ew : wrap64 (((((hd l M).take c).filter (inB l (hd l M) pc)).length : Int) + 1) = (((((hd l M).take c).filter (inB l (hd l M) pc)).length + (0 + 1) : Nat) : Int) := by rw [wnext _ (by omega)]
      by_cases hlast : pc + 1 < toN l (hd l M) u
      · have hfa := (block_R h hf hb).2.2 (by rw [Int.toNat_natCast]; exact hlast)
        obtain ⟨K2, g2⟩ := Goes_ev h pc hpc
        obtain ⟨K3, g3⟩ := ints_ev [(pc : Int) + 1] [(pc : Int) + 1] (by simp)
        rw [gs_near hfa] at g2
        simp only [decide_true] at g2 g3
        refine ⟨max K (max K2 K3) + 2, fun k hk => ?_⟩
        obtain ⟨k, rfl⟩ : ∃ m, k = m + 2 := ⟨k - 2, by omega⟩
        simp only [ladderbacklaw30_FlowCovers.l1]
        rw [if_pos (by omega), if_pos (by omega), e0, if_pos (by simpa using hb1.1), decide_eq_true (by show (pc : Int) < (toN l (hd l M) u : Int); omega)]
        simp only [ladderbacklaw30_FlowCovers.j3, if_true]
        rw [if_pos (by omega), if_pos (by omega), e0, wnext pc (by omega), if_pos (by show ((pc + 1 : Nat) : Int) < (toN l (hd l M) u : Int); omega), g2 k (by omega)]
        simp only [Option.bind_some]
        have g3' := g3 k (by omega)
        rw [show (pc : Int) + 1 = ((pc + 1 : Nat) : Int) by omega] at g3' ⊢
        rw [g3']
        simp only [Option.bind_some, if_true]
        rw [ew, wnext c (by omega)]
        exact g k (by omega)
      · refine ⟨K + 2, fun k hk => ?_⟩
        obtain ⟨k, rfl⟩ : ∃ m, k = m + 2 := ⟨k - 2, by omega⟩
        simp only [ladderbacklaw30_FlowCovers.l1]
        rw [if_pos (by omega), if_pos (by omega), e0, if_pos (by simpa using hb1.1), decide_eq_true (by show (pc : Int) < (toN l (hd l M) u : Int); omega)]
        simp only [ladderbacklaw30_FlowCovers.j3, if_true]
        rw [if_pos (by omega), if_pos (by omega), e0, wnext pc (by omega), if_neg (by show ¬ ((pc + 1 : Nat) : Int) < (toN l (hd l M) u : Int); omega), ew, wnext c (by omega)]
        exact g k (by omega)
    · have hb1 : ¬ ((u : Int) ≤ (pc : Int) ∧ pc < toN l (hd l M) u) := by
        intro h2
        exact hb (decide_eq_true (by rw [Int.toNat_natCast]; exact h2))
      rw [hu, List.filter_cons_of_neg hb, List.filter_nil] at g
      simp only [List.length_nil, Nat.add_zero] at g
      refine ⟨K + 2, fun k hk => ?_⟩
      obtain ⟨k, rfl⟩ : ∃ m, k = m + 2 := ⟨k - 2, by omega⟩
      simp only [ladderbacklaw30_FlowCovers.l1]
      rw [if_pos (by omega), if_pos (by omega), e0]
      by_cases h1 : (pc : Int) ≥ (u : Int)
      · rw [if_pos (by simpa using h1), decide_eq_false (by show ¬ (pc : Int) < (toN l (hd l M) u : Int); omega)]
        simp only [ladderbacklaw30_FlowCovers.j3, Bool.false_eq_true, if_false]
        rw [wnext c (by omega)]
        exact g k (by omega)
      · rw [if_neg (by simpa using h1)]
        simp only [ladderbacklaw30_FlowCovers.j3, Bool.false_eq_true, if_false]
        rw [wnext c (by omega)]
        exact g k (by omega)
theorem all_ev {l : List S44} {M : List Bool} (h : Fk l M) : ∀ r pc : Nat, pc + r = l.length → Ev (fun k => ladderbacklaw30_FlowCovers.l0 k l M (nodesL l (hd l M)) (pc : Int)) true := by
  have hl := h.lm.1
  have hML := h.len
  have hNl : (nodesL l (hd l M)).length = (hd l M).length := by simp [nodesL]
  obtain ⟨Ka, ga⟩ := awake_ev
  simp only at ga
  intro r
  induction r with
  | zero =>
    intro pc hp
    have hz := zero_in h
    have hH0 : 0 < (hd l M).length := List.length_pos_of_mem hz
    have hr0 : rd (hd l M) ((0 : Nat) : Int) = 0 := by
      obtain ⟨u, hu, _⟩ := hd_R h (rd_mem (hd l M) 0 hH0)
      obtain ⟨j, hj, e⟩ := List.getElem_of_mem hz
      have ej : (hd l M).getD j 0 = 0 := by simp [List.getD_eq_getElem?_getD, hj, e]
      by_cases h0 : j = 0
      · subst h0; rw [rd_nat]; exact ej
      · have := rise_get (sc_rise (ldr l M l.length)) (show 0 < j by omega) hj
        rw [rd_nat] at hu ⊢
        unfold hd at hu ej ⊢
        omega
    refine ⟨Ka + 2, fun k hk => ?_⟩
    obtain ⟨k, rfl⟩ : ∃ m, k = m + 2 := ⟨k - 2, by omega⟩
    have e0 : rd_T39 (nodesL l (hd l M)) 0 = node l (hd l M) 0 := by
      have := rdN l (hd l M) 0 hH0
      rw [hr0] at this
      exact this
    simp only [ladderbacklaw30_FlowCovers.l0]
    rw [if_neg (by omega)]
    simp only [ladderbacklaw30_FlowCovers.j1, Bool.false_eq_true, if_false]
    rw [if_pos (by omega), if_pos (by omega), if_pos (by omega), e0, if_pos (by simp [node]), ga k (by omega)]
    rfl
  | succ r ih =>
    intro pc hp
    obtain ⟨K, g⟩ := in_ev h pc (by omega) (ih (pc + 1) (by omega)) (hd l M).length 0 (by omega)
    simp only [List.take_zero, List.filter_nil, List.length_nil] at g
    refine ⟨K + 2, fun k hk => ?_⟩
    obtain ⟨k, rfl⟩ : ∃ m, k = m + 2 := ⟨k - 2, by omega⟩
    simp only [ladderbacklaw30_FlowCovers.l0]
    rw [if_pos (by omega), decide_eq_true (by omega)]
    simp only [ladderbacklaw30_FlowCovers.j1, if_true]
    exact g k (by omega)
theorem FlowCovers : ladderbacklaw30_FlowCovers.Pure := by
  intro l hw
  apply Ev.rounds
  obtain ⟨Ka, ga⟩ := awake_ev
  simp only at ga
  by_cases c : (l.length : Int) > 150
  · refine ⟨Ka, fun k hk => ?_⟩
    simp only [ladderbacklaw30_FlowCovers.f]
    rw [if_pos c, ga k hk]
    rfl
  · have lm : Lim l := by
      refine ⟨by omega, fun i hi => ?_⟩
      have h1 := hw.2 (ins l i) (by simp [ins, rd_T44, hi])
      have h2 := h1.2.1
      simp [Lit.wf, IntKind.min, IntKind.max, IntKind.signed, IntKind.bits] at h2
      omega
    obtain ⟨M, hE, _, hM⟩ := met_or l lm
    have hE' := hE
    obtain ⟨K1, g1⟩ := hE'
    rcases hM with rfl | fk
    · obtain ⟨K2, g2⟩ := nodes_nil hE
      simp only at g1 g2
      refine ⟨max Ka (max K1 K2), fun k hk => ?_⟩
      simp only [ladderbacklaw30_FlowCovers.f]
      rw [if_neg c, g1 k (by omega)]
      simp only [Option.bind_some]
      rw [g2 k (by omega)]
      simp only [Option.bind_some]
      rw [if_pos (by simp), if_pos (by simp), ga k (by omega)]
      rfl
    · obtain ⟨K2, g2⟩ := nodes_ev fk hE
      obtain ⟨K3, g3⟩ := all_ev fk l.length 0 (by omega)
      simp only at g1 g2 g3
      have h0 := fk.h0
      have h1 := fk.len
      refine ⟨max K1 (max K2 K3), fun k hk => ?_⟩
      simp only [ladderbacklaw30_FlowCovers.f]
      rw [if_neg c, g1 k (by omega)]
      simp only [Option.bind_some]
      rw [g2 k (by omega)]
      simp only [Option.bind_some]
      rw [if_neg (by omega)]
      exact g3 k (by omega)
end Go.Proofs.Ytfiffhcpgojkhaa.Pure
