/- ExprMore: what is right stays so, and of its type, in a scope with more at its ends, and what is within it is right; plain. No condition. -/
import Derived.Test.YtfioegoeeflkbaaDoorPsExprMore
namespace Go.Proofs.YtfioegoeeflkbaaDoor.Pure
open Go.Proofs.YtfioegoeeflkbaaDoor Go.Proofs.YtfioegoeeflkbaaDoor.QExprMore Go.Proofs.YtfioegoeeflkbaaDoor.PtExprMore Go.Proofs.YtfioegoeeflkbaaDoor.PsExprMore Go.RowKit Go.Proofs.YtfioegoeeflkbaaDoorW.PrintWords Go.Proofs.YtfioegoeeflkbaaDoorW.PrintLast Go.Proofs.YtfioegoeeflkbaaDoorW.PrintMore
set_option linter.unusedSimpArgs false
set_option linter.unusedVariables false
theorem awake_ev : Ev (fun k => ladderbacklaw26_awake.f k) true := by
  have hc : W30 ⟨1, 2, 5, 0, []⟩ := W30.of ⟨by decide, by decide, by decide, by decide, by simp, by simp⟩
  have hw : W30 ⟨7, 0, 0, 20, [⟨1, 2, 5, 0, []⟩, ⟨1, 2, 5, 0, []⟩]⟩ := W30.of ⟨by decide, by decide, by decide, by decide, by simp, by
    intro y hy
    simp only [List.mem_cons, List.not_mem_nil, or_false, or_self] at hy
    rw [hy]; exact hc⟩
  obtain ⟨K, h⟩ := type_ev [] [] [] [] _ _ (Nat.le_refl _) hw (by decide)
  simp only at h
  refine ⟨K, fun k hk => ?_⟩
  simp only [ladderbacklaw26_awake.f]
  rw [h k hk, show tyS [] [] [] ⟨7, 0, 0, 20, [⟨1, 2, 5, 0, []⟩, ⟨1, 2, 5, 0, []⟩]⟩ = 1 by decide +kernel]
  simp only [Option.bind_some, if_true]
  rw [show expr_Size.f 1 2 5 0 [] = some 1 by decide +kernel]
  rfl
theorem rdV_more (V : List S42) (z : S42) (n : Int) (h0 : 0 ≤ n) (h : n < V.length) : rd_T42 (V ++ [z]) n = rd_T42 V n := by
  simp only [rd_T42, List.getD_eq_getElem?_getD]
  rw [List.getElem?_append_left (by omega)]
theorem rdB_more (V : List S44) (z : S44) (n : Int) (h0 : 0 ≤ n) (h : n < V.length) : rd_T44 (V ++ [z]) n = rd_T44 V n := by
  simp only [rd_T44, List.getD_eq_getElem?_getD]
  rw [List.getElem?_append_left (by omega)]
theorem rdS_more (V : List Int) (z : Int) (n : Int) (h0 : 0 ≤ n) (h : n < V.length) : rd (V ++ [z]) n = rd V n := by
  simp only [rd, List.getD_eq_getElem?_getD]
  rw [List.getElem?_append_left (by omega)]
theorem leaf_more (V : List S42) (B : List S44) (Sl : List Int) (zv : S42) (zb : S44) (zs op t n m : Int) (h : leafV V B Sl op t n m ≠ 0) : leafV (V ++ [zv]) (B ++ [zb]) (Sl ++ [zs]) op t n m = leafV V B Sl op t n m := by
  unfold leafV at h ⊢
  have lv : ((V ++ [zv]).length : Int) = V.length + 1 := by simp
  have lb : ((B ++ [zb]).length : Int) = B.length + 1 := by simp
  have ls : ((Sl ++ [zs]).length : Int) = Sl.length + 1 := by simp
  have hV := rdV_more V zv n
  have hB := rdB_more B zb n
  have hS := rdS_more Sl zs n
  rw [lv, lb, ls]
  grind
theorem one_more (V : List S42) (zv : S42) (op t n m a : Int) (h : oneV V op t n m a ≠ 0) : oneV (V ++ [zv]) op t n m a = oneV V op t n m a := by
  unfold oneV at h ⊢
  have lv : ((V ++ [zv]).length : Int) = V.length + 1 := by simp
  have hV := rdV_more V zv n
  rw [lv]
  grind
theorem ty_more (V : List S42) (B : List S44) (Sl : List Int) (zv : S42) (zb : S44) (zs : Int) : ∀ (N : Nat) (x : S30), SizeOf.sizeOf x ≤ N → tyS V B Sl x ≠ 0 → tyS (V ++ [zv]) (B ++ [zb]) (Sl ++ [zs]) x = tyS V B Sl x ∧ ∀ y ∈ x.f4, tyS V B Sl y ≠ 0 := by
  intro N
  induction N with
  | zero => intro x h; exact absurd h (by have := sz_pos x; omega)
  | succ N ih =>
    intro x hN hx
    have h0 : ∀ y ∈ x.f4, tyS V B Sl y ≠ 0 := fun y hy h0 => by
      apply hx
      rw [tyS_eq]
      unfold tyK
      rw [if_pos (List.mem_map.2 ⟨y, hy, h0⟩)]
    have hk : x.f4.map (tyS (V ++ [zv]) (B ++ [zb]) (Sl ++ [zs])) = x.f4.map (tyS V B Sl) := by
      apply List.map_congr_left
      intro y hy
      obtain ⟨i, hi, rfl⟩ := List.getElem_of_mem hy
      exact (ih _ (by have := kid_lt x i hi; omega) (h0 _ hy)).1
    refine ⟨?_, h0⟩
    rw [tyS_eq] at hx
    rw [tyS_eq, tyS_eq, hk]
    unfold tyK at hx ⊢
    have hn : ¬ (0 : Int) ∈ x.f4.map (tyS V B Sl) := fun h => by rw [if_pos h] at hx; exact hx rfl
    rw [if_neg hn] at hx ⊢
    rw [if_neg hn]
    revert hx
    generalize x.f4.map (tyS V B Sl) = ts
    intro hx
    match ts, hx with
    | [], hx => exact leaf_more V B Sl zv zb zs _ _ _ _ hx
    | [a], hx => exact one_more V zv _ _ _ _ a hx
    | [a, b], hx => rfl
    | a :: b :: c :: r, hx => rfl
theorem ExprMore : ladderbacklaw26_ExprMore.Pure := by
  intro y0 h0 y1 h1 y2 h2
  apply Ev.rounds
  obtain ⟨b1, ⟨K1, e1⟩, hb1⟩ := pfew_ev y0.f0 y0.f1 y0.f2 y0.f3
  simp only at e1
  obtain ⟨b2, ⟨K2, e2⟩, hb2⟩ := few_ev y2 h2 300 (by omega) (by omega)
  simp only at e2
  obtain ⟨K3, e3⟩ := awake_ev
  simp only at e3
  cases b1 with
  | false =>
    refine ⟨max K1 K3 + 1, fun k hk => ?_⟩
    simp only [ladderbacklaw26_ExprMore.f]
    rw [e1 k (by omega)]
    obtain ⟨k, rfl⟩ : ∃ m, k = m + 1 := ⟨k - 1, by omega⟩
    simp only [Option.bind_some, Bool.false_eq_true, if_false, ladderbacklaw26_ExprMore.j0, if_true]
    rw [e3 k (by omega)]
    rfl
  | true =>
  cases b2 with
  | false =>
    refine ⟨max (max K1 K2) K3 + 1, fun k hk => ?_⟩
    simp only [ladderbacklaw26_ExprMore.f]
    rw [e1 k (by omega), e2 k (by omega)]
    obtain ⟨k, rfl⟩ : ∃ m, k = m + 1 := ⟨k - 1, by omega⟩
    simp only [Option.bind_some, if_true, ladderbacklaw26_ExprMore.j0, Bool.not_false]
    rw [e3 k (by omega)]
    rfl
  | true =>
    have hok := hb1 rfl
    have hcnt : cntS y2 ≤ 1000000 := by have := hb2 rfl; omega
    obtain ⟨sg, sl, ⟨K4, e4⟩, _, hsl⟩ := scope_ev y0.f0 y0.f1 y0.f2 y0.f3 hok y1
    simp only at e4
    obtain ⟨K5, e5⟩ := type_ev y0.f1 y0.f2 sg sl _ y2 (Nat.le_refl _) h2 hcnt
    simp only at e5
    by_cases ht : tyS y0.f1 y0.f2 sl y2 = 0
    · refine ⟨max (max (max K1 K2) (max K3 K4)) K5 + 1, fun k hk => ?_⟩
      simp only [ladderbacklaw26_ExprMore.f]
      rw [e1 k (by omega), e2 k (by omega)]
      obtain ⟨k, rfl⟩ : ∃ m, k = m + 1 := ⟨k - 1, by omega⟩
      simp only [Option.bind_some, if_true, ladderbacklaw26_ExprMore.j0, Bool.not_true, Bool.false_eq_true, if_false]
      rw [e4 k (by omega)]
      simp only [Option.bind_some]
      rw [e5 k (by omega)]
      simp only [Option.bind_some]
      rw [if_pos ht, e3 k (by omega)]
      rfl
    obtain ⟨hm1, hm2⟩ := ty_more y0.f1 y0.f2 sl (⟨(⟨#[]⟩ : ByteArray), 0, 0, 0, 0⟩ : S42) (⟨(⟨#[]⟩ : ByteArray), 1⟩ : S44) 6 _ y2 (Nat.le_refl _) ht
    have loop : ∀ (d i : Nat), y2.f4.length - i = d → i ≤ y2.f4.length → Ev (fun k => ladderbacklaw26_ExprMore.l0 k (tyS y0.f1 y0.f2 sl y2) (i : Int) y2.f0 y2.f1 y2.f2 y2.f3 y2.f4 y0.f1 y0.f2 sg sl) true := by
      intro d
      induction d with
      | zero =>
        intro i hd hi
        obtain ⟨K6, e6⟩ := type_ev (y0.f1 ++ [(⟨(⟨#[]⟩ : ByteArray), 0, 0, 0, 0⟩ : S42)]) (y0.f2 ++ [(⟨(⟨#[]⟩ : ByteArray), 1⟩ : S44)]) sg (sl ++ [6]) _ y2 (Nat.le_refl _) h2 hcnt
        simp only at e6
        refine ⟨max K6 K3 + 1, fun k hk => ?_⟩
        obtain ⟨k, rfl⟩ : ∃ m, k = m + 1 := ⟨k - 1, by omega⟩
        obtain ⟨q1, q2, _, _⟩ := hok
        simp only [ladderbacklaw26_ExprMore.l0]
        rw [if_neg (by omega)]
        simp only [Option.bind_some, List.nil_append]
        rw [if_pos (by simp; omega), if_pos (by omega), if_pos (by simp; omega), if_pos (by omega), if_pos (by simp; omega), if_pos (by omega), e6 k (by omega), hm1]
        simp only [Option.bind_some, if_true]
        rw [e3 k (by omega)]
        rfl
      | succ d ihd =>
        intro i hd hi
        have hlt : i < y2.f4.length := by omega
        have hmem := List.getElem_mem hlt
        obtain ⟨K6, e6⟩ := type_ev y0.f1 y0.f2 sg sl _ y2.f4[i] (Nat.le_refl _) (kid_w h2 i hlt) (by have := cntL_mem hmem; rw [cntS_eq] at hcnt; omega)
        simp only at e6
        obtain ⟨K7, e7⟩ := ihd (i + 1) (by omega) (by omega)
        simp only at e7
        refine ⟨max K6 K7 + 1, fun k hk => ?_⟩
        obtain ⟨k, rfl⟩ : ∃ m, k = m + 1 := ⟨k - 1, by omega⟩
        simp only [ladderbacklaw26_ExprMore.l0]
        rw [if_pos (by omega), if_pos (by omega), rd_at _ i hlt, e6 k (by omega)]
        simp only [Option.bind_some]
        rw [if_neg (hm2 _ hmem), next_i _ i hlt (len_w h2), e7 k (by omega)]
    obtain ⟨K8, e8⟩ := loop y2.f4.length 0 (by omega) (by omega)
    simp only at e8
    refine ⟨max (max (max K1 K2) (max K3 K4)) (max K5 K8) + 1, fun k hk => ?_⟩
    simp only [ladderbacklaw26_ExprMore.f]
    rw [e1 k (by omega), e2 k (by omega)]
    obtain ⟨k, rfl⟩ : ∃ m, k = m + 1 := ⟨k - 1, by omega⟩
    simp only [Option.bind_some, if_true, ladderbacklaw26_ExprMore.j0, Bool.not_true, Bool.false_eq_true, if_false]
    rw [e4 k (by omega)]
    simp only [Option.bind_some]
    rw [e5 k (by omega)]
    simp only [Option.bind_some]
    rw [if_neg ht]
    exact e8 k (by omega)
end Go.Proofs.YtfioegoeeflkbaaDoor.Pure
