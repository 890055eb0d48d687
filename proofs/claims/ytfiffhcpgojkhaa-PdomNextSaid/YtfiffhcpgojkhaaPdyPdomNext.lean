/- pdom.Nearest: the nearest postdominators by the turned graph; plain (what the document's own functions have no part in). No condition but that the graph is small. -/
import Derived.Test.YtfiffhcpgojkhaaPdtPdomNext
import Derived.Test.YtfiffhcpgojkhaaDomS
namespace Go.Proofs.Ytfiffhcpgojkhaa.PdyPdomNext
open Go.Proofs.Ytfiffhcpgojkhaa Go.Proofs.Ytfiffhcpgojkhaa.QPdomNext Go.Proofs.Ytfiffhcpgojkhaa.PdB Go.Proofs.Ytfiffhcpgojkhaa.PdtPdomNext Go.Proofs.Ytfiffhcpgojkhaa.DomS Go.Proofs.Ytfiffhcpgojkhaa.DomA Go.Proofs.Ytfiffhcpgojkhaa.DomF Go.Proofs.Ytfiffhcpgojkhaa.DomP Go.Proofs.Ytfiffhcpgojkhaa.DomT Go.RowKit Go.Proofs.YtfiffhcpgojkhaaW.PrintWords Go.Proofs.YtfiffhcpgojkhaaW.PrintLast Go.Proofs.YtfiffhcpgojkhaaW.PrintMore
set_option linter.unusedSimpArgs false
set_option linter.unusedVariables false
/-- A place's number in the turned graph. -/
def phi (n i : Nat) : Nat := if i = n then 0 else i + 1
theorem phi_inj {n i j : Nat} (h : phi n i = phi n j) : i = j := by unfold phi at h; split at h <;> split at h <;> omega
theorem phi_lt {n i : Nat} (h : i ≤ n) : phi n i < n + 1 := by unfold phi; split <;> omega
theorem phi_sur {n p : Nat} (h : p < n + 1) : ∃ i, i ≤ n ∧ phi n i = p := by
  by_cases h0 : p = 0
  · exact ⟨n, Nat.le_refl _, by simp [phi, h0]⟩
  · exact ⟨p - 1, by omega, by unfold phi; split <;> omega⟩
theorem av_rch {T : List (List Int)} (h0 : 0 < T.length) {x j : Nat} (h : Av (pre T) x j) : Rch T j := by
  cases h with
  | root _ => exact .root h0
  | step _ b _ => exact .step b.1 b.2
/-- The nearest dominators stand there. -/
structure Near (next : List (List Int)) (D : List Int) : Prop where
  len : D.length = next.length
  no : ∀ v, v < next.length → (¬ Rch next v ∨ v = 0) → D.getD v 0 = -1
  yes : ∀ v, Rch next v → v ≠ 0 → ∃ m : Nat, D.getD v 0 = (m : Int) ∧ Rch next m ∧ m ≠ v ∧ ∀ x, Dm next x m ↔ Dm next x v ∧ x ≠ v
def wv (n : Nat) (d : Int) : Int := if d = -1 then -1 else if d = 0 then (n : Int) else d - 1
theorem near_range {T : List (List Int)} {D : List Int} (nr : Near T D) (v : Nat) (hv : v < T.length) : -1 ≤ D.getD v 0 ∧ D.getD v 0 < (T.length : Int) := by
  by_cases h : Rch T v ∧ v ≠ 0
  · obtain ⟨m, e, hm, _⟩ := nr.yes v h.1 h.2
    have := DomP.Rch.lt hm
    omega
  · have e := nr.no v hv (by
      by_cases h0 : v = 0
      · exact Or.inr h0
      · exact Or.inl fun hr => h ⟨hr, h0⟩)
    omega
theorem map_ev (next : List (List Int)) (hn : next.length ≤ 20) (Y : List Int) (hY : Y.length ≤ 1000) (hr : ∀ v, v < Y.length → -1 ≤ rd Y (v : Int) ∧ rd Y (v : Int) < 1000) : Ev (fun k => pdom_Nearest.l0 k next [] Y (Y.length : Int) 0) (Y.map (wv next.length)) := by
  have key : ∀ r i : Nat, i + r = Y.length → Ev (fun k => pdom_Nearest.l0 k next ((Y.take i).map (wv next.length)) Y (Y.length : Int) (i : Int)) (Y.map (wv next.length)) := by
    intro r
    induction r with
    | zero =>
      intro i hi
      obtain rfl : i = Y.length := by omega
      refine ⟨1, fun k hk => ?_⟩
      obtain ⟨k, rfl⟩ : ∃ m, k = m + 1 := ⟨k - 1, by omega⟩
      simp only [pdom_Nearest.l0]
      rw [if_neg (by omega), List.take_length]
    | succ r ih =>
      intro i hi
      obtain ⟨K, g⟩ := ih (i + 1) (by omega)
      simp only at g
      refine ⟨K + 1, fun k hk => ?_⟩
      obtain ⟨k, rfl⟩ : ∃ m, k = m + 1 := ⟨k - 1, by omega⟩
      have hg := g k (by omega)
      have hb := hr i (by omega)
      rw [take_rd Y i (by omega), List.map_append, List.map_cons, List.map_nil] at hg
      have hl : ((Y.take i).map (wv next.length)).length < 17592186044416 := by rw [List.length_map, List.length_take]; omega
      simp only [pdom_Nearest.l0]
      rw [if_pos (by omega), if_pos (by omega), if_pos (by omega), wnext i (by omega)]
      generalize rd Y (i : Int) = c at hg hb
      unfold wv at hg ⊢
      unfold wv at hl
      by_cases e1 : c = -1
      · rw [if_pos e1, if_pos hl]
        rw [if_pos e1] at hg
        exact hg
      · rw [if_neg e1]
        rw [if_neg e1] at hg
        by_cases e2 : c = 0
        · rw [if_pos e2, if_pos hl]
          rw [if_pos e2] at hg
          exact hg
        · rw [if_neg e2, if_pos hl, w64_of (by omega) (by omega)]
          rw [if_neg e2] at hg
          exact hg
  obtain ⟨K, g⟩ := key Y.length 0 (by omega)
  simp only [List.take_zero, List.map_nil] at g
  exact ⟨K, g⟩
theorem rd_drop (D : List Int) (v : Nat) : rd (D.drop 1) (v : Int) = D.getD (v + 1) 0 := by
  simp [rd, List.getD_eq_getElem?_getD, Nat.add_comm]
theorem nearest_ev (next T : List (List Int)) (hn : next.length ≤ 20) (tn : Tn next T) (hT : Ev (fun k => pdom_Turned.f k next) T) {D : List Int} (hD : Ev (fun k => dom_Idom.f k T) D) (nr : Near T D) :
    Ev (fun k => pdom_Nearest.f k next) ((D.drop 1).map (wv next.length)) := by
  have hDl : D.length = next.length + 1 := nr.len.trans tn.len
  have hTl := tn.len
  obtain ⟨K1, g1⟩ := hT
  obtain ⟨K2, g2⟩ := hD
  obtain ⟨K3, g3⟩ := map_ev next hn (D.drop 1) (by rw [List.length_drop]; omega) (fun v hv => by
    rw [List.length_drop] at hv
    rw [rd_drop]
    have := near_range nr (v + 1) (by omega)
    omega)
  simp only at g1 g2 g3
  refine ⟨max K1 (max K2 K3), fun k hk => ?_⟩
  simp only [pdom_Nearest.f]
  rw [g1 k (by omega)]
  simp only [Option.bind_some]
  rw [g2 k (by omega)]
  simp only [Option.bind_some]
  rw [if_pos (by omega)]
  exact g3 k (by omega)
theorem dm_root (T : List (List Int)) {j : Nat} (h : Rch T j) : Dm T 0 j := by
  refine ⟨h, fun ha => ?_⟩
  have key : ∀ y, Av (pre T) 0 y → False := by
    intro y hy
    induction hy with
    | root a => exact a rfl
    | step _ _ _ ih => exact ih
  exact key _ ha
theorem near_some (T : List (List Int)) (sm : Small T) (hn : 0 < T.length) : ∃ D, Ev (fun k => dom_Idom.f k T) D ∧ Near T D := by
  obtain ⟨K, D, h1, h2, h3, h4⟩ := idom_some T sm hn
  exact ⟨D, ⟨K, h1⟩, ⟨h2, h3, h4⟩⟩
theorem awake_ev : Ev (fun k => ladderbacklaw32_awake.f k) true := by
  have h0 : pdom_Nearest.f 20 [[1, 2], [3], [3], []] = some [3, 3, 3, 4] := by decide +kernel
  obtain ⟨K, h⟩ := Ev.of (g := fun k => pdom_Nearest.f k [[1, 2], [3], [3], []]) (fun k => pdom_Nearest.mono _ k) h0
  simp only at h
  refine ⟨K, fun k hk => ?_⟩
  simp only [ladderbacklaw32_awake.f]
  rw [h k hk]
  rfl
theorem getDb_set (M : List Bool) (i v : Nat) (b : Bool) (hi : i < M.length) : (M.set i b).getD v false = if v = i then b else M.getD v false := by
  by_cases h : v = i
  · subst h; simp [List.getD_eq_getElem?_getD, hi]
  · rw [if_neg h]; simp [List.getD_eq_getElem?_getD, List.getElem?_set, Ne.symm h]
theorem ends_ev (next : List (List Int)) (hn : next.length ≤ 20) {W : List Int} (hW : W.length = next.length) (hE : Ev (fun k => pdom_Nearest.f k next) W) :
    ∃ E : List Bool, Ev (fun k => pdom_Ends.f k next) E ∧ E.length = next.length ∧ ∀ v, v < next.length → E.getD v false = decide (W.getD v 0 ≥ 0) := by
  have key : ∀ (r i : Nat) (M : List Bool), i + r = next.length → M.length = next.length → (∀ v, v < i → M.getD v false = decide (W.getD v 0 ≥ 0)) →
      ∃ E : List Bool, Ev (fun k => pdom_Ends.l0 k M W (W.length : Int) (i : Int)) E ∧ E.length = next.length ∧ ∀ v, v < next.length → E.getD v false = decide (W.getD v 0 ≥ 0) := by
    intro r
    induction r with
    | zero =>
      intro i M hi hM h
      obtain rfl : i = next.length := by omega
      refine ⟨M, ⟨1, fun k hk => ?_⟩, hM, h⟩
      obtain ⟨k, rfl⟩ : ∃ m, k = m + 1 := ⟨k - 1, by omega⟩
      simp only [pdom_Ends.l0]
      rw [if_neg (by omega)]
    | succ r ih =>
      intro i M hi hM h
      obtain ⟨E, ⟨K, g⟩, h1, h2⟩ := ih (i + 1) (M.set i (decide (rd W (i : Int) ≥ 0))) (by omega) (by simpa using hM) (fun v hv => by
        rw [getDb_set _ _ _ _ (by omega)]
        split
        · rename_i e; subst e; rw [rd_nat]
        · exact h v (by omega))
      simp only at g
      refine ⟨E, ⟨K + 1, fun k hk => ?_⟩, h1, h2⟩
      obtain ⟨k, rfl⟩ : ∃ m, k = m + 1 := ⟨k - 1, by omega⟩
      simp only [pdom_Ends.l0]
      rw [if_pos (by omega), if_pos (by omega), if_pos (by omega), if_pos (by omega), wnext i (by omega), Int.toNat_natCast]
      exact g k (by omega)
  obtain ⟨E, ⟨K, g⟩, h1, h2⟩ := key next.length 0 (List.replicate next.length false) (by omega) (by simp) (fun v hv => by omega)
  obtain ⟨K2, g2⟩ := hE
  simp only at g g2
  refine ⟨E, ⟨max K K2, fun k hk => ?_⟩, h1, h2⟩
  simp only [pdom_Ends.f]
  rw [if_pos (by omega), if_pos (by omega), g2 k (by omega)]
  simp only [Option.bind_some]
  rw [Int.toNat_natCast]
  exact g k (by omega)
end Go.Proofs.Ytfiffhcpgojkhaa.PdyPdomNext
