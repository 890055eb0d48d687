/- The document's blocks: leaders, where blocks end, where they go on; plain. No condition but that the code is short. -/
import Derived.Test.YtfiffhcpgojkhaaPfrFlowBlocks
import Derived.Test.YtfiffhcpgojkhaaPfnFlowBlocks
namespace Go.Proofs.Ytfiffhcpgojkhaa.PfbFlowBlocks
open Go.Proofs.Ytfiffhcpgojkhaa Go.Proofs.Ytfiffhcpgojkhaa.QFlowBlocks Go.Proofs.Ytfiffhcpgojkhaa.PdC Go.Proofs.Ytfiffhcpgojkhaa.PflFlowBlocks Go.Proofs.Ytfiffhcpgojkhaa.PfrFlowBlocks Go.Proofs.Ytfiffhcpgojkhaa.PfnFlowBlocks Go.RowKit Go.Proofs.YtfiffhcpgojkhaaW.PrintWords Go.Proofs.YtfiffhcpgojkhaaW.PrintLast Go.Proofs.YtfiffhcpgojkhaaW.PrintMore
set_option linter.unusedSimpArgs false
set_option linter.unusedVariables false
theorem rfar_f (op : Int) : ladderbackref30_Far.f op = some (fa op) := by
  unfold ladderbackref30_Far.f fa
  by_cases h0 : op ≥ 30
  · rw [if_pos h0]
    by_cases h1 : op ≤ 32
    · rw [if_pos h1]
      have : op = 30 ∨ op = 31 ∨ op = 32 := by omega
      rcases this with rfl | rfl | rfl <;> rfl
    · rw [if_neg h1, if_neg (by omega), if_neg (by omega), if_neg (by omega)]
  · rw [if_neg h0, if_neg (by omega), if_neg (by omega), if_neg (by omega)]
theorem leads_ev {l : List S44} {M : List Bool} (h : Fk l M) (at_ : Nat) : Ev (fun k => ladderbackref30_leads.f k l M (at_ : Int)) (decide ((at_ : Int) ∈ hd l M)) := by
  have hl := h.lm.1
  have hML := h.len
  have key : ∀ r i : Nat, i + r = l.length → (∀ p, p < i → M.getD p false = true → fa (ins l p).f0 = true → (at_ : Int) ∉ gs l p) → Ev (fun k => ladderbackref30_leads.l0 k l M (at_ : Int) (i : Int)) (decide ((at_ : Int) ∈ hd l M)) := by
    intro r
    induction r with
    | zero =>
      intro i hi hno
      obtain rfl : i = l.length := by omega
      have e : decide ((at_ : Int) ∈ hd l M) = ((at_ : Int) == 0) := by
        by_cases h0 : at_ = 0
        · subst h0
          rw [show decide (((0 : Nat) : Int) ∈ hd l M) = true from decide_eq_true ((hd_mem h _).mpr (Or.inl rfl))]; rfl
        · rw [decide_eq_false, eq_comm, beq_eq_false_iff_ne]
          · omega
          · intro hm
            rcases (hd_mem h _).mp hm with e | ⟨p, h1, h2, h3⟩
            · omega
            · exact hno p h1.lt ((h.rc p h1.lt).mpr h1) h2 h3
      refine ⟨1, fun k hk => ?_⟩
      obtain ⟨k, rfl⟩ : ∃ m, k = m + 1 := ⟨k - 1, by omega⟩
      simp only [ladderbackref30_leads.l0]
      rw [if_neg (by omega), e]
    | succ r ih =>
      intro i hi hno
      have hrd : rdOf false M (i : Int) = M.getD i false := by simp [rdOf]
      have skip : ((at_ : Int) ∉ gs l i ∨ ¬ (M.getD i false = true ∧ fa (ins l i).f0 = true)) → Ev (fun k => ladderbackref30_leads.l0 k l M (at_ : Int) ((i + 1 : Nat) : Int)) (decide ((at_ : Int) ∈ hd l M)) := by
        intro hh
        refine ih (i + 1) (by omega) fun p hp h1 h2 => ?_
        by_cases e : p = i
        · subst e
          rcases hh with hh | hh
          · exact hh
          · exact absurd ⟨h1, h2⟩ hh
        · exact hno p (by omega) h1 h2
      by_cases c1 : M.getD i false = true
      · by_cases c2 : fa (ins l i).f0 = true
        · have inner : ∀ s j : Nat, j + s = (gs l i).length → (at_ : Int) ∉ (gs l i).take j → Ev (fun k => ladderbackref30_leads.l1 k l M (at_ : Int) (i : Int) (gs l i) (j : Int)) (decide ((at_ : Int) ∈ hd l M)) := by
            have hgl := gs_len h.lm h.jo (i := i) (by omega)
            intro s
            induction s with
            | zero =>
              intro j hj hn
              obtain rfl : j = (gs l i).length := by omega
              rw [List.take_length] at hn
              obtain ⟨K, g⟩ := skip (Or.inl hn)
              simp only at g
              refine ⟨K + 1, fun k hk => ?_⟩
              obtain ⟨k, rfl⟩ : ∃ m, k = m + 1 := ⟨k - 1, by omega⟩
              simp only [ladderbackref30_leads.l1]
              rw [if_neg (by omega), wnext i (by omega)]
              exact g k (by omega)
            | succ s ihs =>
              intro j hj hn
              by_cases e : rd (gs l i) (j : Int) = (at_ : Int)
              · have hin : (at_ : Int) ∈ hd l M := (hd_mem h _).mpr (Or.inr ⟨i, (h.rc i (by omega)).mp c1, c2, e ▸ rd_mem (gs l i) j (by omega)⟩)
                rw [decide_eq_true hin]
                refine ⟨1, fun k hk => ?_⟩
                obtain ⟨k, rfl⟩ : ∃ m, k = m + 1 := ⟨k - 1, by omega⟩
                simp only [ladderbackref30_leads.l1]
                rw [if_pos (by omega), if_pos (by omega), if_pos e]
              · obtain ⟨K, g⟩ := ihs (j + 1) (by omega) (by
                  rw [take_rd _ _ (by omega), List.mem_append, List.mem_singleton]
                  rintro (h2 | h2)
                  · exact hn h2
                  · exact e h2.symm)
                simp only at g
                refine ⟨K + 1, fun k hk => ?_⟩
                obtain ⟨k, rfl⟩ : ∃ m, k = m + 1 := ⟨k - 1, by omega⟩
                simp only [ladderbackref30_leads.l1]
                rw [if_pos (by omega), if_pos (by omega), if_neg e, wnext j (by omega)]
                exact g k (by omega)
          obtain ⟨K, g⟩ := inner (gs l i).length 0 (by omega) (by simp)
          obtain ⟨K2, g2⟩ := rgoes_ev l h.lm h.jo i (by omega)
          simp only at g g2
          refine ⟨max K K2 + 2, fun k hk => ?_⟩
          obtain ⟨k, rfl⟩ : ∃ m, k = m + 2 := ⟨k - 2, by omega⟩
          simp only [ladderbackref30_leads.l0]
          rw [if_pos (by omega), if_pos (by omega), if_pos (by omega), hrd, if_pos c1, rfar_f, c2]
          simp only [Option.bind_some, Bool.not_true, ladderbackref30_leads.j1, Bool.false_eq_true, if_false]
          rw [g2 k (by omega)]
          simp only [Option.bind_some]
          exact g k (by omega)
        · obtain ⟨K, g⟩ := skip (Or.inr fun hh => c2 hh.2)
          simp only at g
          refine ⟨K + 2, fun k hk => ?_⟩
          obtain ⟨k, rfl⟩ : ∃ m, k = m + 2 := ⟨k - 2, by omega⟩
          simp only [ladderbackref30_leads.l0]
          rw [if_pos (by omega), if_pos (by omega), if_pos (by omega), hrd, if_pos c1, rfar_f, Bool.eq_false_iff.mpr c2]
          simp only [Option.bind_some, Bool.not_false, ladderbackref30_leads.j1, if_true]
          rw [wnext i (by omega)]
          exact g k (by omega)
      · obtain ⟨K, g⟩ := skip (Or.inr fun hh => c1 hh.1)
        simp only at g
        refine ⟨K + 2, fun k hk => ?_⟩
        obtain ⟨k, rfl⟩ : ∃ m, k = m + 2 := ⟨k - 2, by omega⟩
        simp only [ladderbackref30_leads.l0]
        rw [if_pos (by omega), if_pos (by omega), if_pos (by omega), hrd, if_neg c1]
        simp only [ladderbackref30_leads.j1, if_true]
        rw [wnext i (by omega)]
        exact g k (by omega)
  obtain ⟨K, g⟩ := key l.length 0 (by omega) (fun p hp => by omega)
  exact ⟨K, fun k hk => by simp only [ladderbackref30_leads.f]; exact g k hk⟩
/-- What is known of a block's end. -/
theorem to_all {l : List S44} {M : List Bool} (h : Fk l M) {f : Int} (hf : f ∈ hd l M) : ∃ u : Nat, f = (u : Int) ∧ u < l.length ∧ u + 1 ≤ toN l (hd l M) u ∧ Rc l (toN l (hd l M) u - 1) ∧ toN l (hd l M) u ≤ l.length ∧ (fa (ins l (toN l (hd l M) u - 1)).f0 = true ∨ (toN l (hd l M) u : Int) ∈ hd l M) ∧ ∀ s, u + 1 ≤ s → s < toN l (hd l M) u → fa (ins l (s - 1)).f0 = false ∧ (s : Int) ∉ hd l M ∧ Rc l s := by
  obtain ⟨u, rfl, hur⟩ := hd_R h hf
  have hult := hur.lt
  obtain ⟨b1, b2, b3, b4⟩ := to_spec h (l.length + 1) (u + 1) (by omega) (by omega) (by simpa using hur)
  refine ⟨u, rfl, hult, b1, b2, ?_, b3, b4⟩
  have := b2.lt
  unfold toN
  omega
theorem next_in {l : List S44} {M : List Bool} (h : Fk l M) {f : Int} (hf : f ∈ hd l M) {t : Int} (ht : t ∈ gs l (toN l (hd l M) f.toNat - 1)) : t ∈ hd l M := by
  obtain ⟨u, rfl, h1, h2, h3, h4, h5, h6⟩ := to_all h hf
  rw [Int.toNat_natCast] at ht
  cases c : fa (ins l (toN l (hd l M) u - 1)).f0 with
  | true => exact (hd_mem h _).mpr (Or.inr ⟨_, h3, c, ht⟩)
  | false =>
    rw [gs_near c, List.mem_singleton] at ht
    rcases h5 with h5 | h5
    · rw [c] at h5; cases h5
    · have : t = (toN l (hd l M) u : Int) := by omega
      rw [this]; exact h5
/-- A block as it stands ahead of a place. -/
def cur (l : List S44) (H : List Int) (pc : Nat) (f : Int) : S39 := ⟨f, ((min (toN l H f.toNat) pc : Nat) : Int), []⟩
def outp (l : List S44) (H : List Int) (pc : Nat) : List S39 := (H.filter fun y => decide (y < (pc : Int))).map (cur l H pc)
theorem outp_in {l : List S44} {M : List Bool} (h : Fk l M) {pc : Nat} (hm : (pc : Int) ∈ hd l M) : outp l (hd l M) (pc + 1) = outp l (hd l M) pc ++ [⟨(pc : Int), ((pc + 1 : Nat) : Int), []⟩] := by
  unfold outp
  have e1 : ((hd l M).filter fun y => decide (y < ((pc + 1 : Nat) : Int))) = ((hd l M).filter fun y => decide (y < (pc : Int))) ++ [(pc : Int)] := by
    refine rise_eq _ _ (List.Pairwise.filter _ (sc_rise _)) ?_ fun y => ?_
    · rw [List.pairwise_append]
      refine ⟨List.Pairwise.filter _ (sc_rise _), by simp, fun a ha b hb => ?_⟩
      rw [List.mem_singleton] at hb
      subst hb
      exact of_decide_eq_true (List.mem_filter.mp ha).2
    · rw [List.mem_append, List.mem_filter, List.mem_filter, List.mem_singleton, decide_eq_true_eq, decide_eq_true_eq]
      constructor
      · rintro ⟨a, b⟩
        by_cases e : y = (pc : Int)
        · exact Or.inr e
        · exact Or.inl ⟨a, by omega⟩
      · rintro (⟨a, b⟩ | rfl)
        · exact ⟨a, by omega⟩
        · exact ⟨hm, by omega⟩
  rw [e1, List.map_append, List.map_cons, List.map_nil]
  obtain ⟨u, hu, _, h2, _⟩ := to_all h hm
  obtain rfl : pc = u := by omega
  congr 1
  · refine List.map_congr_left fun f hf => ?_
    have hf' := List.mem_filter.mp hf
    have hlt := of_decide_eq_true hf'.2
    obtain ⟨v, rfl, _, _, _, _, _, h6⟩ := to_all h hf'.1
    have hle : toN l (hd l M) v ≤ pc := by
      rcases Nat.lt_or_ge pc (toN l (hd l M) v) with c | c
      · exact absurd hm (h6 pc (by omega) c).2.1
      · exact c
    unfold cur
    rw [Int.toNat_natCast, Nat.min_eq_left hle, Nat.min_eq_left (by omega)]
  · unfold cur
    rw [Int.toNat_natCast, Nat.min_eq_right (by omega)]
/-- Where no block begins: the last block grows, or none does. -/
theorem outp_no {l : List S44} {M : List Bool} (h : Fk l M) {pc : Nat} (hpc : pc < l.length) (hm : (pc : Int) ∉ hd l M) : ∃ (A : List S39) (g : Nat), outp l (hd l M) pc = A ++ [⟨(g : Int), ((min (toN l (hd l M) g) pc : Nat) : Int), []⟩] ∧ outp l (hd l M) (pc + 1) = A ++ [⟨(g : Int), ((min (toN l (hd l M) g) (pc + 1) : Nat) : Int), []⟩] ∧ 0 < pc ∧
    (pc < toN l (hd l M) g → M.getD pc false = true ∧ fa (ins l (pc - 1)).f0 = false) ∧ (toN l (hd l M) g = pc → fa (ins l (pc - 1)).f0 = true) := by
  have hz : (0 : Int) ∈ hd l M := (hd_mem h 0).mpr (Or.inl rfl)
  have hp0 : 0 < pc := by
    rcases Nat.eq_zero_or_pos pc with e | e
    · subst e; exact absurd hz hm
    · exact e
  have e1 : ((hd l M).filter fun y => decide (y < ((pc + 1 : Nat) : Int))) = ((hd l M).filter fun y => decide (y < (pc : Int))) := by
    refine List.filter_congr fun y hy => ?_
    have : y ≠ (pc : Int) := fun e => hm (e ▸ hy)
    exact decide_eq_decide.mpr ⟨fun h => by omega, fun h => by omega⟩
  unfold outp
  rw [e1]
  have hr : ((hd l M).filter fun y => decide (y < (pc : Int))).Pairwise (· < ·) := List.Pairwise.filter _ (sc_rise _)
  have hmem : ∀ y, y ∈ ((hd l M).filter fun y => decide (y < (pc : Int))) ↔ y ∈ hd l M ∧ y < (pc : Int) := fun y => by rw [List.mem_filter, decide_eq_true_eq]
  rcases List.eq_nil_or_concat ((hd l M).filter fun y => decide (y < (pc : Int))) with e | ⟨Q, y, e⟩
  · have := (hmem 0).mpr ⟨hz, by omega⟩
    rw [e] at this; cases this
  · rw [List.concat_eq_append] at e
    rw [e] at hr hmem ⊢
    obtain ⟨hy, hylt⟩ := (hmem y).mp (by simp)
    obtain ⟨g, rfl, g1, g2, g3, g4, g5, g6⟩ := to_all h hy
    refine ⟨Q.map (cur l (hd l M) pc), g, ?_, ?_, hp0, ?_, ?_⟩
    · rw [List.map_append, List.map_cons, List.map_nil]
      unfold cur
      rw [Int.toNat_natCast]
    · rw [List.map_append, List.map_cons, List.map_nil]
      congr 1
      · refine List.map_congr_left fun f hf => ?_
        obtain ⟨hfh, _⟩ := (hmem f).mp (List.mem_append.mpr (Or.inl hf))
        have hfg := (List.pairwise_append.mp hr).2.2 f hf _ (List.mem_singleton.mpr rfl)
        obtain ⟨v, rfl, _, _, _, _, _, h6⟩ := to_all h hfh
        have hle : toN l (hd l M) v ≤ g := by
          rcases Nat.lt_or_ge g (toN l (hd l M) v) with c | c
          · exact absurd hy (h6 g (by omega) c).2.1
          · exact c
        unfold cur
        rw [Int.toNat_natCast, Nat.min_eq_left (by omega), Nat.min_eq_left (by omega)]
    · intro hlt
      obtain ⟨a, _, c⟩ := g6 pc (by omega) hlt
      exact ⟨(h.rc pc hpc).mpr c, a⟩
    · intro he
      rcases g5 with c | c
      · rw [he] at c; exact c
      · rw [he] at c; exact absurd c hm
theorem outp_len (l : List S44) (H : List Int) (pc : Nat) : (outp l H pc).length = pos H (pc : Int) := by simp [outp, pos]
theorem pos_le (H : List Int) (x : Int) : pos H x ≤ H.length := List.length_filter_le _ _
/-- The blocks' numbers, of those that begin ahead of a place. -/
structure Bk (l : List S44) (H : List Int) (pc : Nat) (B : List Int) : Prop where
  len : B.length = l.length + 1
  at_ : ∀ f : Nat, f < pc → (f : Int) ∈ H → B.getD f 0 = (pos H (f : Int) : Int)
theorem getDi_set (B : List Int) (i v : Nat) (x : Int) (hi : i < B.length) : (B.set i x).getD v 0 = if v = i then x else B.getD v 0 := by
  by_cases h : v = i
  · subst h; simp [List.getD_eq_getElem?_getD, hi]
  · rw [if_neg h]; simp [List.getD_eq_getElem?_getD, List.getElem?_set, Ne.symm h]
theorem scan_ev {l : List S44} {M : List Bool} (h : Fk l M) (R : List S39) (hR : ∀ B, Bk l (hd l M) l.length B → Ev (fun k => ladderbackref30_Nodes.l1 k l (outp l (hd l M) l.length) B 0) R) :
    ∀ (r pc : Nat) (B : List Int), pc + r = l.length → Bk l (hd l M) pc B → Ev (fun k => ladderbackref30_Nodes.l0 k l M (outp l (hd l M) pc) B (pc : Int)) R := by
  have hl := h.lm.1
  have hML := h.len
  have hHl := hd_len h
  intro r
  induction r with
  | zero =>
    intro pc B hp hB
    obtain rfl : pc = l.length := by omega
    obtain ⟨K, g⟩ := hR B hB
    simp only at g
    refine ⟨K + 1, fun k hk => ?_⟩
    obtain ⟨k, rfl⟩ : ∃ m, k = m + 1 := ⟨k - 1, by omega⟩
    simp only [ladderbackref30_Nodes.l0]
    rw [if_neg (by omega)]
    exact g k (by omega)
  | succ r ih =>
    intro pc B hp hB
    have hBl := hB.len
    have hol := outp_len l (hd l M) pc
    have hpl := pos_le (hd l M) (pc : Int)
    obtain ⟨K1, g1⟩ := leads_ev h pc
    simp only at g1
    by_cases hm : (pc : Int) ∈ hd l M
    · obtain ⟨K, g⟩ := ih (pc + 1) (B.set pc ((outp l (hd l M) pc).length : Int)) (by omega) ⟨by rw [List.length_set]; exact hBl, fun f hf hfm => by
        rw [getDi_set _ _ _ _ (by omega)]
        split
        · rename_i e; subst e; rw [hol]
        · exact hB.at_ f (by omega) hfm⟩
      rw [decide_eq_true hm] at g1
      rw [outp_in h hm] at g
      simp only at g
      refine ⟨max K K1 + 1, fun k hk => ?_⟩
      obtain ⟨k, rfl⟩ : ∃ m, k = m + 1 := ⟨k - 1, by omega⟩
      simp only [ladderbackref30_Nodes.l0]
      rw [if_pos (by omega), g1 k (by omega)]
      simp only [Option.bind_some, if_true]
      rw [if_pos (by omega), if_pos (by omega), if_pos (by omega), wnext pc (by omega), Int.toNat_natCast]
      exact g k (by omega)
    · obtain ⟨A, gg, a1, a2, a3, a4, a5⟩ := outp_no h (by omega) hm
      obtain ⟨K, g⟩ := ih (pc + 1) B (by omega) ⟨hBl, fun f hf hfm => by
        by_cases e : f = pc
        · subst e; exact absurd hfm hm
        · exact hB.at_ f (by omega) hfm⟩
      rw [decide_eq_false hm] at g1
      rw [a1] at hol ⊢
      rw [a2] at g
      simp only at g
      have hAl : A.length + 1 ≤ 30000 := by rw [List.length_append] at hol; simp only [List.length_cons, List.length_nil] at hol; omega
      have hlen : ∀ e : S39, (A ++ [e]).length = A.length + 1 := fun e => by simp
      have ew : ∀ e : S39, wrap64 (((A ++ [e]).length : Int) - 1) = (A.length : Int) := fun e => by rw [hlen, w64_of (by omega) (by omega)]; omega
      have er : ∀ e : S39, rd_T39 (A ++ [e]) (A.length : Int) = e := fun e => by simp [rd_T39]
      have es : ∀ e e2 : S39, (A ++ [e]).set A.length e2 = A ++ [e2] := fun e e2 => by simp
      have hrd : rdOf false M (pc : Int) = M.getD pc false := by simp [rdOf]
      have ep : wrap64 ((pc : Int) - 1) = ((pc - 1 : Nat) : Int) := by rw [w64_of (by omega) (by omega)]; omega
      have same : ¬ pc < toN l (hd l M) gg → (min (toN l (hd l M) gg) (pc + 1) : Nat) = min (toN l (hd l M) gg) pc := fun hh => by omega
      refine ⟨max K K1 + 1, fun k hk => ?_⟩
      obtain ⟨k, rfl⟩ : ∃ m, k = m + 1 := ⟨k - 1, by omega⟩
      have hg := g k (by omega)
      simp only [ladderbackref30_Nodes.l0]
      rw [if_pos (by omega), g1 k (by omega)]
      simp only [Option.bind_some, Bool.false_eq_true, if_false]
      rw [if_pos (by rw [hlen]; omega), if_pos (by omega), hrd, wnext pc (by omega)]
      by_cases c1 : M.getD pc false = true
      · rw [if_pos c1, ew, if_pos (by omega), if_pos (by rw [hlen]; omega), er]
        by_cases c2 : pc < toN l (hd l M) gg
        · have h4 := a4 c2
          rw [if_pos (by show ((min (toN l (hd l M) gg) pc : Nat) : Int) = (pc : Int); omega), ep, if_pos (by omega), if_pos (by omega), rfar_f, show (rd_T44 l ((pc - 1 : Nat) : Int)) = ins l (pc - 1) from rfl, h4.2]
          simp only [Option.bind_some, Bool.false_eq_true, if_false]
          rw [Int.toNat_natCast, es]
          rw [show min (toN l (hd l M) gg) (pc + 1) = pc + 1 by omega] at hg
          exact hg
        · rw [same c2] at hg
          by_cases c3 : toN l (hd l M) gg = pc
          · have h5 := a5 c3
            rw [if_pos (by show ((min (toN l (hd l M) gg) pc : Nat) : Int) = (pc : Int); omega), ep, if_pos (by omega), if_pos (by omega), rfar_f, show (rd_T44 l ((pc - 1 : Nat) : Int)) = ins l (pc - 1) from rfl, h5]
            simp only [Option.bind_some, if_true]
            exact hg
          · rw [if_neg (by show ¬ ((min (toN l (hd l M) gg) pc : Nat) : Int) = (pc : Int); omega)]
            exact hg
      · rw [if_neg c1]
        have c2 : ¬ pc < toN l (hd l M) gg := fun hh => c1 (a4 hh).1
        rw [same c2] at hg
        exact hg
theorem outp_end {l : List S44} {M : List Bool} (h : Fk l M) : outp l (hd l M) l.length = (hd l M).map fun f => ⟨f, (toN l (hd l M) f.toNat : Int), []⟩ := by
  unfold outp
  have e : ((hd l M).filter fun y => decide (y < (l.length : Int))) = hd l M := by
    rw [List.filter_eq_self]
    intro y hy
    obtain ⟨u, rfl, h1, _⟩ := to_all h hy
    exact decide_eq_true (by omega)
  rw [e]
  refine List.map_congr_left fun f hf => ?_
  obtain ⟨u, rfl, _, _, _, h4, _⟩ := to_all h hf
  unfold cur
  rw [Int.toNat_natCast, Nat.min_eq_left h4]
theorem link_ev {l : List S44} {M : List Bool} (h : Fk l M) (B : List Int) (hB : Bk l (hd l M) l.length B) : ∀ (C P : List Int), P ++ C = hd l M → Ev (fun k => ladderbackref30_Nodes.l1 k l (P.map (node l (hd l M)) ++ C.map fun f => ⟨f, (toN l (hd l M) f.toNat : Int), []⟩) B (P.length : Int)) (nodesL l (hd l M)) := by
  have hl := h.lm.1
  have hHl := hd_len h
  intro C
  induction C with
  | nil =>
    intro P hP
    rw [List.append_nil] at hP
    subst hP
    refine ⟨1, fun k hk => ?_⟩
    obtain ⟨k, rfl⟩ : ∃ m, k = m + 1 := ⟨k - 1, by omega⟩
    simp only [ladderbackref30_Nodes.l1]
    rw [if_neg (by simp), List.map_nil, List.append_nil]
    rfl
  | cons f C ih =>
    intro P hP
    have hf : f ∈ hd l M := by rw [← hP]; simp
    have hlen : P.length + (C.length + 1) = (hd l M).length := by rw [← hP]; simp
    obtain ⟨u, rfl, h1, h2, h3, h4, h5, h6⟩ := to_all h hf
    have hto : toN l (hd l M) u - 1 < l.length := h3.lt
    have hgl := gs_len h.lm h.jo hto
    have hrest := ih (P ++ [(u : Int)]) (by rw [List.append_assoc]; exact hP)
    rw [List.map_append, List.map_cons, List.map_nil, List.length_append] at hrest
    simp only [List.length_cons, List.length_nil] at hrest
    have e0 : node l (hd l M) (u : Int) = ⟨(u : Int), (toN l (hd l M) u : Int), (gs l (toN l (hd l M) u - 1)).map fun x => (pos (hd l M) x : Int)⟩ := by simp [node]
    have hPm : ∀ (e : S39) (Z : List S39), (P.map (node l (hd l M)) ++ e :: Z).length = P.length + (Z.length + 1) := fun e Z => by simp
    have er : ∀ (e : S39) (Z : List S39), rd_T39 (P.map (node l (hd l M)) ++ e :: Z) (P.length : Int) = e := fun e Z => by simp [rd_T39, List.getD_eq_getElem?_getD]
    have es : ∀ (e e2 : S39) (Z : List S39), (P.map (node l (hd l M)) ++ e :: Z).set P.length e2 = P.map (node l (hd l M)) ++ e2 :: Z := fun e e2 Z => by
      rw [List.set_append]
      simp
    have inner : ∀ r j : Nat, j + r = (gs l (toN l (hd l M) u - 1)).length → Ev (fun k => ladderbackref30_Nodes.l2 k l (P.map (node l (hd l M)) ++ (⟨(u : Int), (toN l (hd l M) u : Int), ((gs l (toN l (hd l M) u - 1)).take j).map fun x => (pos (hd l M) x : Int)⟩ : S39) :: C.map fun f => ⟨f, (toN l (hd l M) f.toNat : Int), []⟩) B (P.length : Int) (gs l (toN l (hd l M) u - 1)) (j : Int)) (nodesL l (hd l M)) := by
      intro r
      induction r with
      | zero =>
        intro j hj
        obtain rfl : j = (gs l (toN l (hd l M) u - 1)).length := by omega
        obtain ⟨K, g⟩ := hrest
        rw [e0, List.append_assoc] at g
        simp only at g
        refine ⟨K + 1, fun k hk => ?_⟩
        obtain ⟨k, rfl⟩ : ∃ m, k = m + 1 := ⟨k - 1, by omega⟩
        simp only [ladderbackref30_Nodes.l2]
        rw [if_neg (by omega), wnext _ (by omega), List.take_length]
        exact g k (by omega)
      | succ r ihr =>
        intro j hj
        obtain ⟨K, g⟩ := ihr (j + 1) (by omega)
        simp only at g
        have hmem := rd_mem (gs l (toN l (hd l M) u - 1)) j (by omega)
        have hin := next_in h hf (by rw [Int.toNat_natCast]; exact hmem)
        obtain ⟨v, hv, hvl, _⟩ := to_all h hin
        refine ⟨K + 1, fun k hk => ?_⟩
        obtain ⟨k, rfl⟩ : ∃ m, k = m + 1 := ⟨k - 1, by omega⟩
        have hg := g k (by omega)
        have hBl := hB.len
        rw [take_rd _ j (by omega), List.map_append, List.map_cons, List.map_nil] at hg
        have hvm : (v : Int) ∈ hd l M := hv ▸ hin
        have hbv : rd B (v : Int) = (pos (hd l M) (v : Int) : Int) := by rw [rd_nat]; exact hB.at_ v hvl hvm
        rw [hv] at hg
        simp only [ladderbackref30_Nodes.l2]
        rw [if_pos (by omega), if_pos (by omega), if_pos (by rw [hPm]; omega), if_pos (by omega), hv, if_pos (by omega), if_pos (by omega), er, if_pos (by show (List.map _ (List.take j _)).length < _; rw [List.length_map, List.length_take]; omega), Int.toNat_natCast, es, hbv, wnext j (by omega)]
        exact hg
    obtain ⟨K, g⟩ := inner _ 0 (Nat.zero_add _)
    obtain ⟨K2, g2⟩ := rgoes_ev l h.lm h.jo (toN l (hd l M) u - 1) hto
    simp only [List.take_zero, List.map_nil] at g g2
    refine ⟨max K K2 + 1, fun k hk => ?_⟩
    obtain ⟨k, rfl⟩ : ∃ m, k = m + 1 := ⟨k - 1, by omega⟩
    have e1 : wrap64 ((toN l (hd l M) u : Int) - 1) = ((toN l (hd l M) u - 1 : Nat) : Int) := by rw [w64_of (by omega) (by omega)]; omega
    rw [List.map_cons, Int.toNat_natCast]
    simp only [ladderbackref30_Nodes.l1]
    rw [if_pos (by rw [hPm]; omega), if_pos (by omega), er]
    show (ladderbackref30_Goes.f k l (wrap64 ((toN l (hd l M) u : Int) - 1))).bind _ = _
    rw [e1, g2 k (by omega)]
    simp only [Option.bind_some]
    exact g k (by omega)
theorem rnodes_ev {l : List S44} {M : List Bool} (h : Fk l M) (hM : Ev (fun k => ladderbackref30_Met.f k l) M) : Ev (fun k => ladderbackref30_Nodes.f k l) (nodesL l (hd l M)) := by
  have hl := h.lm.1
  have h0 := h.h0
  obtain ⟨K1, g1⟩ := hM
  obtain ⟨K2, g2⟩ := scan_ev h (nodesL l (hd l M)) (fun B hB => by
    rw [outp_end h]
    have := link_ev h B hB (hd l M) [] rfl
    simpa using this) l.length 0 (List.replicate (l.length + 1) 0) (by omega) ⟨by simp, fun f hf => by omega⟩
  have e0 : outp l (hd l M) 0 = [] := by
    unfold outp
    rw [List.filter_eq_nil_iff.mpr]
    · rfl
    · intro y hy
      obtain ⟨u, rfl, _⟩ := to_all h hy
      simp
  rw [e0] at g2
  simp only at g1 g2
  refine ⟨max K1 K2, fun k hk => ?_⟩
  have g3 := g2 k (by omega)
  have hw := wnext l.length (by omega)
  obtain ⟨n1, hn1⟩ : ∃ n1, n1 = l.length + 1 := ⟨_, rfl⟩
  rw [← hn1] at hw g3
  simp only [ladderbackref30_Nodes.f]
  rw [hw, g1 k (by omega)]
  simp only [Option.bind_some]
  rw [if_pos (by omega), if_pos (by omega), Int.toNat_natCast]
  exact g3
theorem rnodes_nil {l : List S44} (lm : Lim l) (hM : Ev (fun k => ladderbackref30_Met.f k l) []) : Ev (fun k => ladderbackref30_Nodes.f k l) [] := by
  have hl := lm.1
  obtain ⟨K1, g1⟩ := hM
  simp only at g1
  refine ⟨K1 + 2, fun k hk => ?_⟩
  obtain ⟨k, rfl⟩ : ∃ m, k = m + 2 := ⟨k - 2, by omega⟩
  have hw := wnext l.length (by omega)
  obtain ⟨n1, hn1⟩ : ∃ n1, n1 = l.length + 1 := ⟨_, rfl⟩
  rw [← hn1] at hw
  simp only [ladderbackref30_Nodes.f]
  rw [hw, g1 (k + 2) (by omega)]
  simp only [Option.bind_some]
  rw [if_pos (by omega), if_pos (by omega)]
  generalize List.replicate ((n1 : Int).toNat) (0 : Int) = B
  simp only [ladderbackref30_Nodes.l0]
  rw [if_neg (by simp)]
  simp only [ladderbackref30_Nodes.l1]
  rw [if_neg (by simp)]
end Go.Proofs.Ytfiffhcpgojkhaa.PfbFlowBlocks
