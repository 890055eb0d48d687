-- Printed by a program of this session's over the kit's printer (wip/patch_print.py).
import Derived.Test.YtfiffhcpgojkhaaQInterPartsx0
import Derived.Test.YtfiffhcpgojkhaaQInterPartsx1
namespace Go.Proofs.Ytfiffhcpgojkhaa.QInterParts
open Go.RowKit Go.Proofs.Ytfiffhcpgojkhaa Go.Proofs.YtfiffhcpgojkhaaW.PrintWords Go.Proofs.YtfiffhcpgojkhaaW.PrintLast Go.Proofs.YtfiffhcpgojkhaaW.PrintMore
attribute [local go_sem] setCell_drewN0 max2_int min2_int max_two min_two max_three min_three max_four min_four   -- for this text's walks alone
set_option linter.unusedVariables false
set_option linter.unusedSimpArgs false

/-! ### inter_know: function 68 -/
theorem p2_0 {P : Prop} (h : P := by repeat (first | (with_reducible first | exact HB.out | apply below_alloc | apply pw_below_drewN | apply below_drew1 | refine below_set ?_ GE121.out | refine below_set ?_ GE128.out) | exact HB.out)) : P := h
theorem p2_1 {P : Prop} (h : P := by (with_reducible repeat (first | refine blk_drewN ?_ _ | refine blk_drew ?_ | refine blk_alloc ?_ _)); exact BK121.out) : P := h
theorem p2_2 {P : Prop} (h : P := by repeat (first | (with_reducible first | exact HB.out | apply below_alloc | apply pw_below_drewN | apply below_drew1 | refine below_set ?_ GE121.out) | exact HB.out)) : P := h
theorem p2_3 {P : Prop} (h : P := by first | (simp only [putAll, Act.put, List.setIfInBounds_toArray, List.set_cons_zero, List.set_cons_succ]; done) | (simp only [putAll, Act.put, List.setIfInBounds_toArray, List.set_cons_zero, List.set_cons_succ]; rfl)) : P := h
theorem p2_4 {P : Prop} (h : P := by (with_reducible repeat (first | refine blk_drewN ?_ _ | refine blk_drew ?_ | refine blk_alloc ?_ _)); exact BK128.out) : P := h
theorem p2_5 {P : Prop} (h : P := by first | (with_reducible assumption) | assumption) : P := h
theorem p2_6 {P : Prop} (h : P := by (with_reducible repeat (first | apply Kd.V_alloc | apply Kd.V_drewN | apply Kd.V_drew)); exact HO0.out) : P := h
theorem p2_7 {P : Prop} (h : P := by (with_reducible repeat (first | apply Kd.R_alloc | apply Kd.R_drewN | apply Kd.R_drew)); exact HO127.out) : P := h
theorem p2_8 {P : Prop} (h : P := by (with_reducible repeat (first | apply Kd.N_alloc | apply Kd.N_drewN | apply Kd.N_drew)); exact HO124.out) : P := h
theorem p2_9 {P : Prop} (h : P := by (with_reducible repeat (first | apply Kd.V_alloc | apply Kd.V_drewN | apply Kd.V_drew)); exact (Kd.V_mono (Kd.V_far (p := ⟨gb128, 2, none⟩) (Kd.V_far (p := ⟨gb128, 1, none⟩) (Kd.V_far (p := ⟨gb128, 0, none⟩) (Kd.V_mono HO0.out (fun k_ hk => (⟨hk, hk.2.2.2.2⟩ : _ ∧ k_ ≠ gb128))) (fun _ hk => hk.2) (.slice Ao17 y122.length co17)) (fun _ hk => hk.2) (.slice none 0 0)) (fun _ hk => hk.2) (.slice Ao16 y125.length co16)) (fun _ h_ => h_.1))) : P := h
theorem p2_10 {P : Prop} (h : P := by (with_reducible repeat (first | apply Kd.R_alloc | apply Kd.R_drewN | apply Kd.R_drew)); exact Kd.R_mono HO127.out (fun _ hk => hk.1)) : P := h
theorem p2_11 {P : Prop} (h : P := by (with_reducible repeat (first | apply Kd.V_alloc | apply Kd.V_drewN | apply Kd.V_drew)); exact Kd.V_mono HO0.out (fun _ hk => ⟨hk.1.1, ⟨hk.2, ⟨hk.1.2.1, hk.1.2.2⟩⟩⟩)) : P := h
theorem p2_12 {P : Prop} (h : P := by repeat (first | (with_reducible first | exact HB.out | apply below_alloc | apply pw_below_drewN | apply below_drew1) | exact HB.out)) : P := h
theorem p2_13 {P : Prop} (h : P := by (with_reducible repeat (first | apply Kd.R_alloc | apply Kd.R_drewN | apply Kd.R_drew)); exact HO_14.out) : P := h
theorem p2_14 {P : Prop} (h : P := by (with_reducible repeat (first | apply Kd.V_alloc | apply Kd.V_drewN | apply Kd.V_drew)); exact Kd.V_mono HO0.out (fun _ hk => ⟨hk.1.1, ⟨hk.1.2.1, ⟨hk.1.2.2, hk.2⟩⟩⟩)) : P := h
theorem p2_15 {P : Prop} (h : P := by (with_reducible repeat (first | apply Kd.V_alloc | apply Kd.V_drewN | apply Kd.V_drew)); exact Kd.V_mono HO0.out (fun _ hk => ⟨hk.1.1, ⟨hk.2, hk.1.2⟩⟩)) : P := h
theorem p2_16 {P : Prop} (h : P := by (try simp only [List.map_toArray, List.map_cons, List.map_nil]); first | done | rfl | (simp only [List.length_drop, List.length_take]; rfl)) : P := h
def inter_know.l0 : Nat → List (List Int) → List Int → Int → Int → List (List Int) → List Bool → Option ((List (List Int)) × (List (List Int)) × List Bool)
 | 0, _, _, _, _, _, _ => none
 | k + 1, x0, x14, x15, x16, x129000, x129002 => if x16 < x15 then (if 0 ≤ x16 then (if x16 < (x14.length : Int) then (if 0 ≤ (rd x14 x16) then (if (rd x14 x16) < (x0.length : Int) then (if (rd x14 x16) < (x129000.length : Int) then (if (rd x14 x16) < (x129002.length : Int) then (inter_know.l0 k x0 x14 x15 (wrap64 (x16 + 1)) (x129000.set ((rd x14 x16) : Int).toNat (rd_L1 x0 (rd x14 x16))) (x129002.set ((rd x14 x16) : Int).toNat true)) else (none)) else (none)) else (none)) else (none)) else (none)) else (none)) else ((flow_Preds.f k x129000).bind fun t136 => (some (x129000, t136, x129002)))
def inter_know.f (k : Nat) (l0 : List (List Int)) : Option ((List (List Int)) × (List (List Int)) × List Bool) := if 0 ≤ (l0.length : Int) then (if ((l0.length : Int) : Int).toNat ≤ 11728124029610 then (if ((l0.length : Int) : Int).toNat ≤ 281474976710656 then ((dom_Order.f l0).bind fun t129 => (inter_know.l0 k l0 t129 (t129.length : Int) 0 (List.replicate ((l0.length : Int) : Int).toNat []) (List.replicate ((l0.length : Int) : Int).toNat false))) else (none)) else (none)) else (none)
theorem inter_know.mono_l : ∀ k, (∀ y0 y1 y2 y3 y4 y5, LeO (inter_know.l0 k y0 y1 y2 y3 y4 y5) (inter_know.l0 (k + 1) y0 y1 y2 y3 y4 y5))
 | 0 => fun _ _ _ _ _ _ r h => by simp [inter_know.l0] at h
 | k + 1 => by
  have ih0 := inter_know.mono_l k
  ·
   intro y0 y1 y2 y3 y4 y5
   unfold inter_know.l0
   repeat' first
   | (with_reducible exact ih0 _ _ _ _ _ _)
   | (with_reducible exact flow_Preds.mono _ _)
   | (with_reducible exact LeO.refl _)
   | (with_reducible exact LeO.none _)
   | (with_reducible refine LeO.ite ?_ ?_)
   | (with_reducible refine LeO.bind ?_ (fun _ => ?_))
   | exact ih0 _ _ _ _ _ _
   | exact flow_Preds.mono _ _
   | exact LeO.none _
   | refine LeO.ite ?_ ?_
   | refine LeO.bind ?_ (fun _ => ?_)
theorem inter_know.mono : ∀ a0 k, LeO (inter_know.f k a0) (inter_know.f (k + 1) a0) := by
 intro a0 k
 have ih0 := inter_know.mono_l k
 unfold inter_know.f
 repeat' first
   | (with_reducible exact ih0 _ _ _ _ _ _)
   | (with_reducible exact flow_Preds.mono _ _)
   | (with_reducible exact LeO.refl _)
   | (with_reducible exact LeO.none _)
   | (with_reducible refine LeO.ite ?_ ?_)
   | (with_reducible refine LeO.bind ?_ (fun _ => ?_))
   | exact ih0 _ _ _ _ _ _
   | exact flow_Preds.mono _ _
   | exact LeO.none _
   | refine LeO.ite ?_ ?_
   | refine LeO.bind ?_ (fun _ => ?_)
def inter_know.T1 : Bool × List (List Nat × List Nat) := (true, [([], []), ([0], [0]), ([1, 1], [1]), ([], []), ([3], [3]), ([4, 4], [4]), ([2, 5], [2, 5]), ([], []), ([7, 6, 0, 1, 2, 3, 4, 5, 6, 7], [6, 7])])
def inter_know.B1 : List Nat := [0, 1, 3, 0, 8, 24, 63, 0, 255]
theorem inter_know.tab1 : rtab .any (opsOf Try.f68 1) = inter_know.T1 := by kernel_rfl
theorem inter_know.bits1 : waitsOk inter_know.T1.2 inter_know.B1 = true := by kernel_rfl
def inter_know.T5 : Bool × List (List Nat × List Nat) := (true, [([], []), ([0], [0]), ([], []), ([], []), ([], []), ([3, 4], [3, 4]), ([5], [5]), ([1, 2, 0, 1, 2, 3, 4, 5, 6], [1, 2]), ([7, 6, 0, 1, 2, 3, 4, 5, 6], [6, 7])])
def inter_know.B5 : List Nat := [0, 1, 0, 0, 0, 24, 56, 127, 255]
theorem inter_know.tab5 : rtab .any (opsOf Try.f68 5) = inter_know.T5 := by kernel_rfl
theorem inter_know.bits5 : waitsOk inter_know.T5.2 inter_know.B5 = true := by kernel_rfl
set_option maxHeartbeats 8000000 in
set_option maxRecDepth 100000 in
theorem inter_know.calls (k : Nat) (P0_ : Nat → Prop) (A0 : Option Addr) (c0 : Nat) (l0 : List (List Int)) (r1 : List (List Int)) (r2 : List (List Int)) (r3 : List Bool) (w : World) (hs0 : Kd.V (Kd.slice 3 (Kd.int .i64)) 27 w w.heap.size (fun k_ => P0_ k_) (.slice A0 l0.length c0) l0) (h : inter_know.f k l0 = some (r1, r2, r3)) :
  Calls Try.prog 68 #[.slice A0 l0.length c0] w fun e w' => ∃ v0_ v1_ v2_ : Value, e = .returned (.agg #[v0_, v1_, v2_]) ∧ Kd.N (Kd.slice 3 (Kd.int .i64)) 27 w' w.heap.size (fun k_ => (P0_ k_ ∨ w.heap.size ≤ k_) ∧ some k_ ≠ (v1_ : Value).ownBlock ∧ some k_ ≠ (v2_ : Value).ownBlock) v0_ r1 ∧ Kd.N (Kd.slice 3 (Kd.int .i64)) 27 w' w.heap.size (fun k_ => (P0_ k_ ∨ w.heap.size ≤ k_) ∧ some k_ ≠ (v0_ : Value).ownBlock ∧ some k_ ≠ (v2_ : Value).ownBlock) v1_ r2 ∧ Kd.R Kd.bool 4 w' w.heap.size (fun k_ => (w.heap.size ≤ k_)) v2_ r3 ∧ Below w.heap.size w w' := by
 have hu74 := Try.underlying74
 have HO0 := Aside0.mk (show Kd.V (Kd.slice 3 (Kd.int .i64)) 27 w w.heap.size (fun k_ => (P0_ k_ ∨ w.heap.size ≤ k_)) (.slice A0 l0.length c0) l0 from Kd.V_mono hs0 (fun k_ hk => .inl hk))
 have HB := Aside0.mk (Below.refl w.heap.size w)
 have H : (if 0 ≤ (l0.length : Int) then (if ((l0.length : Int) : Int).toNat ≤ 11728124029610 then (if ((l0.length : Int) : Int).toNat ≤ 281474976710656 then ((dom_Order.f l0).bind fun t129 => (inter_know.l0 k l0 t129 (t129.length : Int) 0 (List.replicate ((l0.length : Int) : Int).toNat []) (List.replicate ((l0.length : Int) : Int).toNat false))) else (none)) else (none)) else (none)) = some (r1, r2, r3) := h
 clear h
 by_cases c2 : 0 ≤ (l0.length : Int)
 ·
  rw [if_pos c2] at H
  have c2b0 := eq_true c2
  have c2b1 : decide (0 ≤ (l0.length : Int)) = true := decide_eq_true c2
  clear c2
  by_cases c3 : ((l0.length : Int) : Int).toNat ≤ 11728124029610
  ·
   rw [if_pos c3] at H
   have c3b0 := eq_true c3
   have c3b1 : decide (((l0.length : Int) : Int).toNat ≤ 11728124029610) = true := decide_eq_true c3
   clear c3
   obtain ⟨y122, hy122⟩ : ∃ y_ : List (List Int), y_ = (List.replicate ((l0.length : Int) : Int).toNat []) := ⟨_, rfl⟩
   replace H : (if ((l0.length : Int) : Int).toNat ≤ 281474976710656 then ((dom_Order.f l0).bind fun t129 => (inter_know.l0 k l0 t129 (t129.length : Int) 0 y122 (List.replicate ((l0.length : Int) : Int).toNat false))) else (none)) = some (r1, r2, r3) := by first | (rw [hy122]; with_reducible exact H) | (have H2_ := (Option.bind_some _ _).symm.trans H; rw [hy122]; with_reducible exact H2_) | (have H2_ := (Option.bind_some _ _).symm.trans H; with_reducible exact H2_) | with_reducible exact H | (rw [hy122]; exact H) | exact H
   have Ny122 := Aside0.mk hy122
   clear hy122
   by_cases c4 : ((l0.length : Int) : Int).toNat ≤ 281474976710656
   ·
    rw [if_pos c4] at H
    have c4b0 := eq_true c4
    have c4b1 : decide (((l0.length : Int) : Int).toNat ≤ 281474976710656) = true := decide_eq_true c4
    clear c4
    obtain ⟨y125, hy125⟩ : ∃ y_ : List Bool, y_ = (List.replicate ((l0.length : Int) : Int).toNat false) := ⟨_, rfl⟩
    replace H : ((dom_Order.f l0).bind fun t129 => (inter_know.l0 k l0 t129 (t129.length : Int) 0 y122 y125)) = some (r1, r2, r3) := by first | (rw [hy125]; with_reducible exact H) | (have H2_ := (Option.bind_some _ _).symm.trans H; rw [hy125]; with_reducible exact H2_) | (have H2_ := (Option.bind_some _ _).symm.trans H; with_reducible exact H2_) | with_reducible exact H | (rw [hy125]; exact H) | exact H
    have Ny125 := Aside0.mk hy125
    clear hy125
    replace H := Option.bind_eq_some_iff.mp H
    obtain ⟨t129, A50, H⟩ := H
    replace H : (inter_know.l0 k l0 t129 (t129.length : Int) 0 y122 y125) = some (r1, r2, r3) := H
    have A5 := Aside0.mk A50
    clear A50
    have H' := Aside0.mk H
    clear H
    go_enter Try.func68, Try.ntmps68
    try go_wp2_with (first | ((with_reducible refine gate_dst (N := 2) rfl ?_); refine box_event ?hg (N := 2) ?hd (cs := #[.slice none 0 0, .slice none 0 0, .slice none 0 0]) (t := 74) ?hr ?_; (case hd => rfl); (case hg => rfl); (case hr => first | (go_simp; done) | (go_simp; rfl)); intro gb121 hg w6 hbox hb; have n0_ := Aside0.mk (Kd.V_below (Kd.V_elderB p2_6 gb121 (Nat.le_of_eq hg.symm)) hb); have n1_ := Aside0.mk (below_step p2_12 hb); have n2_ := Aside0.mk (hbox); have n3_ := Aside0.mk ((by rw [hg]; exact (below_size p2_12) : w.heap.size ≤ gb121)); have n4_ := Aside0.mk ((by rw [hg]; exact (below_size p2_12) : w.heap.size ≤ gb121)); clear HO0; clear HB; have HO0 := n0_; have HB := n1_; have BK121 := n2_; have GW121 := n3_; have GE121 := n4_; clear n0_ n1_ n2_ n3_ n4_; clear hb hbox hg))
    have n0_ := Aside0.mk (Kd.V_drew HO0.out)
    have n1_ := Aside0.mk (blk_drew BK121.out)
    have n2_ := Aside0.mk (below_drew1 HB.out)
    clear HO0
    clear BK121
    clear HB
    have HO0 := n0_
    have BK121 := n1_
    have HB := n2_
    clear n0_ n1_ n2_
    refine start_ (n := 9) (S := fun w' => True) (ds := []) #[false, false, false, false, false, false, false, false, false] (by kernel_rfl) rfl rfl trivial (fun hHeld => ?_); refine with_tabW inter_know.tab1 inter_know.bits1 (fun HT_ HW_ => ?_)
    generalize w6.drew = w7 at HO0 BK121 HB hHeld ⊢
    refine pure_ (i := 0) (N := some 6) (v := ?_) (a' := ?_) #[true, false, false, false, false, false, false, false, false] rfl rfl (any_of HT_.out (by kernel_rfl)) (fun _ _ _ h => h) (Or.inl ⟨by rfl, ?_⟩) ?_ ?_
    rotate_left
    ·
     intro w'
     go_simp
     with_reducible rfl
    rotate_left
    ·
     simp only [Act.put, List.setIfInBounds_toArray, List.set_cons_zero, List.set_cons_succ, i64_w, i32_w]
     rfl
    refine pure_ (i := 1) (N := some 7) (v := ?_) (a' := ?_) #[true, true, false, false, false, false, false, false, false] rfl rfl (any_of HT_.out (by kernel_rfl)) (fun _ _ _ h => h) (Or.inl ⟨by rfl, ?_⟩) ?_ ?_
    rotate_left
    ·
     intro w'
     go_simp
     with_reducible rfl
    rotate_left
    ·
     simp only [Act.put, List.setIfInBounds_toArray, List.set_cons_zero, List.set_cons_succ, i64_w, i32_w]
     rfl
    refine pure_ (i := 3) (N := some 9) (v := ?_) (a' := ?_) #[true, true, false, true, false, false, false, false, false] rfl rfl (any_of HT_.out (by kernel_rfl)) (fun _ _ _ h => h) (Or.inl ⟨by rfl, ?_⟩) ?_ ?_
    rotate_left
    ·
     intro w'
     go_simp
     with_reducible rfl
    rotate_left
    ·
     simp only [Act.put, List.setIfInBounds_toArray, List.set_cons_zero, List.set_cons_succ, i64_w, i32_w]
     rfl
    refine pure_ (i := 4) (N := some 10) (v := ?_) (a' := ?_) #[true, true, false, true, true, false, false, false, false] rfl rfl (any_of HT_.out (by kernel_rfl)) (fun _ _ _ h => h) (Or.inl ⟨by rfl, ?_⟩) ?_ ?_
    rotate_left
    ·
     intro w'
     go_simp
     with_reducible rfl
    rotate_left
    ·
     simp only [Act.put, List.setIfInBounds_toArray, List.set_cons_zero, List.set_cons_succ, i64_w, i32_w]
     rfl
    refine join_ (σ := Value × Value × Nat) 1 #[true, true, true, true, true, true, true, true, false] (fun s_ => [(8, s_.1), (11, s_.2.1), (3, .pointer (some ⟨s_.2.2, 0, none⟩)), (12, .agg #[s_.1, .slice none 0 0, s_.2.1])]) (fun s_ w' => (Kd.V (Kd.slice 3 (Kd.int .i64)) 27 w' w.heap.size (fun k_ => (P0_ k_ ∨ w.heap.size ≤ k_) ∧ some k_ ≠ (s_.1 : Value).ownBlock ∧ some k_ ≠ (s_.2.1 : Value).ownBlock ∧ k_ ≠ gb121 ∧ k_ ≠ s_.2.2) (.slice A0 l0.length c0) l0) ∧ (Kd.N (Kd.slice 3 (Kd.int .i64)) 27 w' w.heap.size (fun k_ => (P0_ k_ ∨ w.heap.size ≤ k_) ∧ some k_ ≠ (s_.2.1 : Value).ownBlock ∧ k_ ≠ gb121 ∧ k_ ≠ s_.2.2) s_.1 y122) ∧ (Kd.R Kd.bool 4 w' w.heap.size (fun k_ => (w.heap.size ≤ k_)) s_.2.1 y125) ∧ (w'.heap[gb121]? = some (.cells #[.slice none 0 0, .slice none 0 0, .slice none 0 0] 74 (0, 0))) ∧ (w'.heap[s_.2.2]? = some (.cells #[.slice none 0 0, .slice none 0 0, .slice none 0 0] 74 (0, 0))) ∧ (w.heap.size ≤ s_.2.2) ∧ (w.heap.size ≤ s_.2.2) ∧ (gb121 ≠ s_.2.2) ∧ (s_.2.2 ≠ gb121) ∧ (Below w.heap.size w w')) ?_ ?_
    rotate_left
    ·
     intro hJ2_5_7
     refine join_ (σ := Value × Value) 2 #[true, true, true, true, true, true, true, false, false] (fun s_ => [(8, s_.1), (11, s_.2), (12, .agg #[s_.1, .slice none 0 0, s_.2])]) (fun s_ w' => (Kd.V (Kd.slice 3 (Kd.int .i64)) 27 w' w.heap.size (fun k_ => (P0_ k_ ∨ w.heap.size ≤ k_) ∧ some k_ ≠ (s_.1 : Value).ownBlock ∧ some k_ ≠ (s_.2 : Value).ownBlock ∧ k_ ≠ gb121) (.slice A0 l0.length c0) l0) ∧ (Kd.N (Kd.slice 3 (Kd.int .i64)) 27 w' w.heap.size (fun k_ => (P0_ k_ ∨ w.heap.size ≤ k_) ∧ some k_ ≠ (s_.2 : Value).ownBlock ∧ k_ ≠ gb121) s_.1 y122) ∧ (Kd.R Kd.bool 4 w' w.heap.size (fun k_ => (w.heap.size ≤ k_)) s_.2 y125) ∧ (w'.heap[gb121]? = some (.cells #[.slice none 0 0, .slice none 0 0, .slice none 0 0] 74 (0, 0))) ∧ (Below w.heap.size w w')) ?_ ?_
     rotate_left
     ·
      intro hJ2_5
      refine join_ (σ := Value × Nat) 3 #[true, true, true, true, true, false, false, true, false] (fun s_ => [(8, s_.1), (3, .pointer (some ⟨s_.2, 0, none⟩))]) (fun s_ w' => (Kd.V (Kd.slice 3 (Kd.int .i64)) 27 w' w.heap.size (fun k_ => (P0_ k_ ∨ w.heap.size ≤ k_) ∧ some k_ ≠ (s_.1 : Value).ownBlock ∧ k_ ≠ gb121 ∧ k_ ≠ s_.2) (.slice A0 l0.length c0) l0) ∧ (Kd.N (Kd.slice 3 (Kd.int .i64)) 27 w' w.heap.size (fun k_ => (P0_ k_ ∨ w.heap.size ≤ k_) ∧ k_ ≠ gb121 ∧ k_ ≠ s_.2) s_.1 y122) ∧ (w'.heap[gb121]? = some (.cells #[.slice none 0 0, .slice none 0 0, .slice none 0 0] 74 (0, 0))) ∧ (w'.heap[s_.2]? = some (.cells #[.slice none 0 0, .slice none 0 0, .slice none 0 0] 74 (0, 0))) ∧ (w.heap.size ≤ s_.2) ∧ (w.heap.size ≤ s_.2) ∧ (gb121 ≠ s_.2) ∧ (s_.2 ≠ gb121) ∧ (Below w.heap.size w w')) ?_ ?_
      rotate_left
      ·
       intro hJ2_7
       refine join_ (σ := Value × Nat) 3 #[true, true, false, true, true, true, false, true, false] (fun s_ => [(11, s_.1), (3, .pointer (some ⟨s_.2, 0, none⟩))]) (fun s_ w' => (Kd.V (Kd.slice 3 (Kd.int .i64)) 27 w' w.heap.size (fun k_ => (P0_ k_ ∨ w.heap.size ≤ k_) ∧ some k_ ≠ (s_.1 : Value).ownBlock ∧ k_ ≠ gb121 ∧ k_ ≠ s_.2) (.slice A0 l0.length c0) l0) ∧ (Kd.R Kd.bool 4 w' w.heap.size (fun k_ => (w.heap.size ≤ k_)) s_.1 y125) ∧ (w'.heap[gb121]? = some (.cells #[.slice none 0 0, .slice none 0 0, .slice none 0 0] 74 (0, 0))) ∧ (w'.heap[s_.2]? = some (.cells #[.slice none 0 0, .slice none 0 0, .slice none 0 0] 74 (0, 0))) ∧ (w.heap.size ≤ s_.2) ∧ (w.heap.size ≤ s_.2) ∧ (gb121 ≠ s_.2) ∧ (s_.2 ≠ gb121) ∧ (Below w.heap.size w w')) ?_ ?_
       rotate_left
       ·
        intro hJ5_7
        refine join_ (σ := Value) 4 #[true, true, true, true, true, false, false, false, false] (fun s_ => [(8, s_)]) (fun s_ w' => (Kd.V (Kd.slice 3 (Kd.int .i64)) 27 w' w.heap.size (fun k_ => (P0_ k_ ∨ w.heap.size ≤ k_) ∧ some k_ ≠ (s_ : Value).ownBlock ∧ k_ ≠ gb121) (.slice A0 l0.length c0) l0) ∧ (Kd.N (Kd.slice 3 (Kd.int .i64)) 27 w' w.heap.size (fun k_ => (P0_ k_ ∨ w.heap.size ≤ k_) ∧ k_ ≠ gb121) s_ y122) ∧ (w'.heap[gb121]? = some (.cells #[.slice none 0 0, .slice none 0 0, .slice none 0 0] 74 (0, 0))) ∧ (Below w.heap.size w w')) ?_ ?_
        rotate_left
        ·
         intro hJ2
         refine join_ (σ := Value) 4 #[true, true, false, true, true, true, false, false, false] (fun s_ => [(11, s_)]) (fun s_ w' => (Kd.V (Kd.slice 3 (Kd.int .i64)) 27 w' w.heap.size (fun k_ => (P0_ k_ ∨ w.heap.size ≤ k_) ∧ some k_ ≠ (s_ : Value).ownBlock ∧ k_ ≠ gb121) (.slice A0 l0.length c0) l0) ∧ (Kd.R Kd.bool 4 w' w.heap.size (fun k_ => (w.heap.size ≤ k_)) s_ y125) ∧ (w'.heap[gb121]? = some (.cells #[.slice none 0 0, .slice none 0 0, .slice none 0 0] 74 (0, 0))) ∧ (Below w.heap.size w w')) ?_ ?_
         rotate_left
         ·
          intro hJ5
          refine join_ (σ := Nat) 4 #[true, true, false, true, true, false, false, true, false] (fun s_ => [(3, .pointer (some ⟨s_, 0, none⟩))]) (fun s_ w' => (Kd.V (Kd.slice 3 (Kd.int .i64)) 27 w' w.heap.size (fun k_ => (P0_ k_ ∨ w.heap.size ≤ k_) ∧ k_ ≠ gb121 ∧ k_ ≠ s_) (.slice A0 l0.length c0) l0) ∧ (w'.heap[gb121]? = some (.cells #[.slice none 0 0, .slice none 0 0, .slice none 0 0] 74 (0, 0))) ∧ (w'.heap[s_]? = some (.cells #[.slice none 0 0, .slice none 0 0, .slice none 0 0] 74 (0, 0))) ∧ (w.heap.size ≤ s_) ∧ (w.heap.size ≤ s_) ∧ (gb121 ≠ s_) ∧ (s_ ≠ gb121) ∧ (Below w.heap.size w w')) ?_ ?_
          rotate_left
          ·
           intro hJ7
           refine three_ (i := 2) (j := 5) (k := 7) (Ni := some 8) (Nj := some 11) (Nk := some 3) #[true, true, true, true, true, false, false, false, false] #[true, true, false, true, true, true, false, false, false] #[true, true, false, true, true, false, false, true, false] rfl rfl rfl rfl rfl rfl (three_of HT_.out (by kernel_rfl)) (by decide) (by decide) (by decide) (fun K hK => ?_) (fun K hK => ?_) (fun K hK => ?_)
           ·
            skip
            refine Kd.N_make_step (Kd.slice 3 (Kd.int .i64)) _ 27 (by rfl) (N' := 8) rfl 22 _ _ rfl (l0.length : Int) rfl rfl Try.underlying22 (.slice none 0 0) 24 info27 rfl (by decide) (by omega) [] (ok := fun k_ => w7.heap.size ≤ k_) (okp := fun _ => False) (Kd.FK_slice_mk (Nat.le_refl _) (Kd.F_nil _ _ _)) (fun _ hk => hk.elim) (Nat.le_refl _) (of_decide_eq_true p2_5) (Nat.le_trans (Nat.mul_le_mul_right _ (of_decide_eq_true p2_5 : (l0.length : Int).toNat ≤ 11728124029610)) (by omega)) (Below.refl _ _) (Nat.le_refl _) ?_
            intro v123 w8 ho9 hb hg_ hnew_
            clear hg_ hnew_
            (first | rw [← Ny122.out] at ho9 | (simp only [Int.reduceToNat] at ho9; rw [← Ny122.out] at ho9))
            have n0_ := Aside0.mk (Kd.V_elder' p2_6 (Kd.N_base ho9) hb)
            have n1_ := Aside0.mk (Kd.N_lower (Kd.N_mono (ok' := fun k_ => (P0_ k_ ∨ w.heap.size ≤ k_) ∧ k_ ≠ gb121) ho9 (fun k_ hk_ => ⟨(.inr (Nat.le_trans (below_size p2_2) hk_)), (Kd.freshB (g := gb121) (o := .cells #[.slice none 0 0, .slice none 0 0, .slice none 0 0] 74 (0, 0)) p2_1 k_ hk_)⟩)) (below_size p2_2))
            have n2_ := Aside0.mk (blk_below (g := gb121) (o := .cells #[.slice none 0 0, .slice none 0 0, .slice none 0 0] 74 (0, 0)) p2_1 hb)
            have n3_ := Aside0.mk (below_step p2_2 hb)
            clear HO0
            clear BK121
            clear HB
            have HO0 := n0_
            have HO124 := n1_
            have BK121 := n2_
            have HB := n3_
            clear n0_ n1_ n2_ n3_
            clear hb ho9
            refine hK.out _ _ trivial (fun hHeld => ?_)
            clear hK K
            refine norm_ (a' := ?_) ?_ ?_
            rotate_left
            ·
             show Act.put _ (some 8) _ = _
             simp only [Act.put, List.setIfInBounds_toArray, List.set_cons_zero, List.set_cons_succ, i64_w, i32_w]
             rfl
            exact norm_ p2_3 (hJ2 (v123) _ ⟨p2_15, p2_8, p2_1, p2_2⟩)
           ·
            skip
            refine Kd.R_make_step Kd.bool _ 4 (by rfl) (N := 11) rfl 25 _ _ rfl (l0.length : Int) rfl rfl Try.underlying25 (.bool false) 1 info4 rfl (by decide) (by omega) false (ok := fun _ => True) (okp := fun _ => True) rfl (fun _ hk => hk) trivial (of_decide_eq_true p2_5) (Nat.le_trans (Nat.mul_le_mul_right _ (of_decide_eq_true p2_5 : (l0.length : Int).toNat ≤ 281474976710656)) (by omega)) (Below.refl _ _) (Nat.le_refl _) ?_
            intro v126 w8 ho9 hb hg_ hnew_
            clear hg_ hnew_
            (first | rw [← Ny125.out] at ho9 | (simp only [Int.reduceToNat] at ho9; rw [← Ny125.out] at ho9))
            have n0_ := Aside0.mk (Kd.V_elder' p2_6 (Kd.R_base ho9) hb)
            have n1_ := Aside0.mk (Kd.R_lower (Kd.R_newM (M := fun k_ => (w.heap.size ≤ k_)) ho9 (below_size p2_2) (fun k_ h_ => h_)) (below_size p2_2))
            have n2_ := Aside0.mk (blk_below (g := gb121) (o := .cells #[.slice none 0 0, .slice none 0 0, .slice none 0 0] 74 (0, 0)) p2_1 hb)
            have n3_ := Aside0.mk (below_step p2_2 hb)
            clear HO0
            clear BK121
            clear HB
            have HO0 := n0_
            have HO127 := n1_
            have BK121 := n2_
            have HB := n3_
            clear n0_ n1_ n2_ n3_
            clear hb ho9
            refine hK.out _ _ trivial (fun hHeld => ?_)
            clear hK K
            refine norm_ (a' := ?_) ?_ ?_
            rotate_left
            ·
             show Act.put _ (some 11) _ = _
             simp only [Act.put, List.setIfInBounds_toArray, List.set_cons_zero, List.set_cons_succ, i64_w, i32_w]
             rfl
            exact norm_ p2_3 (hJ5 (v126) _ ⟨p2_15, p2_10, p2_1, p2_2⟩)
           ·
            skip
            refine box_step ?hg (N := 3) ?hd (cs := #[.slice none 0 0, .slice none 0 0, .slice none 0 0]) (t := 74) ?hr ?_; (case hd => rfl); (case hg => rfl); (case hr => first | (go_simp; done) | (go_simp; rfl))
            intro gb128 hg w8 hbox hb
            have n0_ := Aside0.mk (Kd.V_below (Kd.V_elderB p2_6 gb128 (Nat.le_of_eq hg.symm)) hb)
            have n1_ := Aside0.mk (blk_below (g := gb121) (o := .cells #[.slice none 0 0, .slice none 0 0, .slice none 0 0] 74 (0, 0)) p2_1 hb)
            have n2_ := Aside0.mk (below_step p2_2 hb)
            have n3_ := Aside0.mk (hbox)
            have n4_ := Aside0.mk ((by rw [hg]; exact (below_size p2_2) : w.heap.size ≤ gb128))
            have n5_ := Aside0.mk ((by rw [hg]; exact (below_size p2_2) : w.heap.size ≤ gb128))
            have n6_ := Aside0.mk ((by rw [hg]; exact Nat.ne_of_lt (blk_lt (g := gb121) (o := .cells #[.slice none 0 0, .slice none 0 0, .slice none 0 0] 74 (0, 0)) p2_1) : gb121 ≠ gb128))
            have n7_ := Aside0.mk ((by rw [hg]; exact Nat.ne_of_gt (blk_lt (g := gb121) (o := .cells #[.slice none 0 0, .slice none 0 0, .slice none 0 0] 74 (0, 0)) p2_1) : gb128 ≠ gb121))
            clear HO0
            clear BK121
            clear HB
            have HO0 := n0_
            have BK121 := n1_
            have HB := n2_
            have BK128 := n3_
            have GW128 := n4_
            have GE128 := n5_
            have NB121_128 := n6_
            have NB128_121 := n7_
            clear n0_ n1_ n2_ n3_ n4_ n5_ n6_ n7_
            clear hb hbox hg
            refine hK.out _ _ trivial (fun hHeld => ?_)
            clear hK K
            refine norm_ (a' := ?_) ?_ ?_
            rotate_left
            ·
             show Act.put _ (some 3) _ = _
             simp only [Act.put, List.setIfInBounds_toArray, List.set_cons_zero, List.set_cons_succ, i64_w, i32_w]
             rfl
            exact norm_ p2_3 (hJ7 (gb128) _ ⟨(by (with_reducible repeat (first | apply Kd.V_alloc | apply Kd.V_drewN | apply Kd.V_drew)); exact Kd.V_mono HO0.out (fun _ hk => ⟨hk.1.1, ⟨hk.1.2, hk.2⟩⟩)), p2_1, p2_4, GW128.out, GE128.out, NB121_128.out, NB128_121.out, p2_0⟩)
          ·
           skip
           rintro gb128 w9 ⟨h0_, h1_, h2_, h3_, h4_, h5_, h6_, h7_⟩
           have n0_ : Aside0 (Kd.V (Kd.slice 3 (Kd.int .i64)) 27 w9 w.heap.size (fun k_ => (P0_ k_ ∨ w.heap.size ≤ k_) ∧ k_ ≠ gb121 ∧ k_ ≠ gb128) (.slice A0 l0.length c0) l0) := ⟨h0_⟩
           have n1_ : Aside0 (w9.heap[gb121]? = some (.cells #[.slice none 0 0, .slice none 0 0, .slice none 0 0] 74 (0, 0))) := ⟨h1_⟩
           have n2_ : Aside0 (w9.heap[gb128]? = some (.cells #[.slice none 0 0, .slice none 0 0, .slice none 0 0] 74 (0, 0))) := ⟨h2_⟩
           have n3_ : Aside0 (w.heap.size ≤ gb128) := ⟨h3_⟩
           have n4_ : Aside0 (w.heap.size ≤ gb128) := ⟨h4_⟩
           have n5_ : Aside0 (gb121 ≠ gb128) := ⟨h5_⟩
           have n6_ : Aside0 (gb128 ≠ gb121) := ⟨h6_⟩
           have n7_ : Aside0 (Below w.heap.size w w9) := ⟨h7_⟩
           clear HO0
           clear BK121
           clear HB
           clear h0_ h1_ h2_ h3_ h4_ h5_ h6_ h7_
           have HO0 := n0_
           have BK121 := n1_
           have BK128 := n2_
           have GW128 := n3_
           have GE128 := n4_
           have NB121_128 := n5_
           have NB128_121 := n6_
           have HB := n7_
           clear n0_ n1_ n2_ n3_ n4_ n5_ n6_ n7_
           have hHeld := trivial
           refine norm_ (a' := ?_) ?_ ?_
           rotate_left
           ·
            simp only [putAll, Act.put, List.setIfInBounds_toArray, List.set_cons_zero, List.set_cons_succ]
            rfl
           refine two_ (i := 2) (j := 5) (Ni := some 8) (Nj := some 11) #[true, true, true, true, true, false, false, true, false] #[true, true, false, true, true, true, false, true, false] rfl rfl rfl rfl (two_of HT_.out (by kernel_rfl)) (by decide) (by decide) (fun K hK => ?_) (fun K hK => ?_)
           ·
            skip
            refine Kd.N_make_step (Kd.slice 3 (Kd.int .i64)) _ 27 (by rfl) (N' := 8) rfl 22 _ _ rfl (l0.length : Int) rfl rfl Try.underlying22 (.slice none 0 0) 24 info27 rfl (by decide) (by omega) [] (ok := fun k_ => w9.heap.size ≤ k_) (okp := fun _ => False) (Kd.FK_slice_mk (Nat.le_refl _) (Kd.F_nil _ _ _)) (fun _ hk => hk.elim) (Nat.le_refl _) (of_decide_eq_true p2_5) (Nat.le_trans (Nat.mul_le_mul_right _ (of_decide_eq_true p2_5 : (l0.length : Int).toNat ≤ 11728124029610)) (by omega)) (Below.refl _ _) (Nat.le_refl _) ?_
            intro v123 w10 ho11 hb hg_ hnew_
            clear hg_ hnew_
            (first | rw [← Ny122.out] at ho11 | (simp only [Int.reduceToNat] at ho11; rw [← Ny122.out] at ho11))
            have n0_ := Aside0.mk (Kd.V_elder' p2_6 (Kd.N_base ho11) hb)
            have n1_ := Aside0.mk (Kd.N_lower (Kd.N_mono (ok' := fun k_ => (P0_ k_ ∨ w.heap.size ≤ k_) ∧ k_ ≠ gb121 ∧ k_ ≠ gb128) ho11 (fun k_ hk_ => ⟨(.inr (Nat.le_trans (below_size p2_0) hk_)), (Kd.freshB (g := gb121) (o := .cells #[.slice none 0 0, .slice none 0 0, .slice none 0 0] 74 (0, 0)) p2_1 k_ hk_), (Kd.freshB (g := gb128) (o := .cells #[.slice none 0 0, .slice none 0 0, .slice none 0 0] 74 (0, 0)) p2_4 k_ hk_)⟩)) (below_size p2_0))
            have n2_ := Aside0.mk (blk_below (g := gb121) (o := .cells #[.slice none 0 0, .slice none 0 0, .slice none 0 0] 74 (0, 0)) p2_1 hb)
            have n3_ := Aside0.mk (blk_below (g := gb128) (o := .cells #[.slice none 0 0, .slice none 0 0, .slice none 0 0] 74 (0, 0)) p2_4 hb)
            have n4_ := Aside0.mk (below_step p2_0 hb)
            clear HO0
            clear BK121
            clear BK128
            clear HB
            have HO0 := n0_
            have HO124 := n1_
            have BK121 := n2_
            have BK128 := n3_
            have HB := n4_
            clear n0_ n1_ n2_ n3_ n4_
            clear hb ho11
            refine hK.out _ _ trivial (fun hHeld => ?_)
            clear hK K
            refine norm_ (a' := ?_) ?_ ?_
            rotate_left
            ·
             show Act.put _ (some 8) _ = _
             simp only [Act.put, List.setIfInBounds_toArray, List.set_cons_zero, List.set_cons_succ, i64_w, i32_w]
             rfl
            exact norm_ p2_3 (hJ2_7 (v123, gb128) _ ⟨p2_11, p2_8, p2_1, p2_4, GW128.out, GE128.out, NB121_128.out, NB128_121.out, p2_0⟩)
           ·
            skip
            refine Kd.R_make_step Kd.bool _ 4 (by rfl) (N := 11) rfl 25 _ _ rfl (l0.length : Int) rfl rfl Try.underlying25 (.bool false) 1 info4 rfl (by decide) (by omega) false (ok := fun _ => True) (okp := fun _ => True) rfl (fun _ hk => hk) trivial (of_decide_eq_true p2_5) (Nat.le_trans (Nat.mul_le_mul_right _ (of_decide_eq_true p2_5 : (l0.length : Int).toNat ≤ 281474976710656)) (by omega)) (Below.refl _ _) (Nat.le_refl _) ?_
            intro v126 w10 ho11 hb hg_ hnew_
            clear hg_ hnew_
            (first | rw [← Ny125.out] at ho11 | (simp only [Int.reduceToNat] at ho11; rw [← Ny125.out] at ho11))
            have n0_ := Aside0.mk (Kd.V_elder' p2_6 (Kd.R_base ho11) hb)
            have n1_ := Aside0.mk (Kd.R_lower (Kd.R_newM (M := fun k_ => (w.heap.size ≤ k_)) ho11 (below_size p2_0) (fun k_ h_ => h_)) (below_size p2_0))
            have n2_ := Aside0.mk (blk_below (g := gb121) (o := .cells #[.slice none 0 0, .slice none 0 0, .slice none 0 0] 74 (0, 0)) p2_1 hb)
            have n3_ := Aside0.mk (blk_below (g := gb128) (o := .cells #[.slice none 0 0, .slice none 0 0, .slice none 0 0] 74 (0, 0)) p2_4 hb)
            have n4_ := Aside0.mk (below_step p2_0 hb)
            clear HO0
            clear BK121
            clear BK128
            clear HB
            have HO0 := n0_
            have HO127 := n1_
            have BK121 := n2_
            have BK128 := n3_
            have HB := n4_
            clear n0_ n1_ n2_ n3_ n4_
            clear hb ho11
            refine hK.out _ _ trivial (fun hHeld => ?_)
            clear hK K
            refine norm_ (a' := ?_) ?_ ?_
            rotate_left
            ·
             show Act.put _ (some 11) _ = _
             simp only [Act.put, List.setIfInBounds_toArray, List.set_cons_zero, List.set_cons_succ, i64_w, i32_w]
             rfl
            exact norm_ p2_3 (hJ5_7 (v126, gb128) _ ⟨p2_11, p2_10, p2_1, p2_4, GW128.out, GE128.out, NB121_128.out, NB128_121.out, p2_0⟩)
         ·
          skip
          rintro v126 w10 ⟨h0_, h1_, h2_, h3_⟩
          have n0_ : Aside0 (Kd.V (Kd.slice 3 (Kd.int .i64)) 27 w10 w.heap.size (fun k_ => (P0_ k_ ∨ w.heap.size ≤ k_) ∧ some k_ ≠ (v126 : Value).ownBlock ∧ k_ ≠ gb121) (.slice A0 l0.length c0) l0) := ⟨h0_⟩
          have n1_ : Aside0 (Kd.R Kd.bool 4 w10 w.heap.size (fun k_ => (w.heap.size ≤ k_)) v126 y125) := ⟨h1_⟩
          have n2_ : Aside0 (w10.heap[gb121]? = some (.cells #[.slice none 0 0, .slice none 0 0, .slice none 0 0] 74 (0, 0))) := ⟨h2_⟩
          have n3_ : Aside0 (Below w.heap.size w w10) := ⟨h3_⟩
          clear HO0
          clear BK121
          clear HB
          clear h0_ h1_ h2_ h3_
          have HO0 := n0_
          have HO127 := n1_
          have BK121 := n2_
          have HB := n3_
          clear n0_ n1_ n2_ n3_
          have hHeld := trivial
          refine norm_ (a' := ?_) ?_ ?_
          rotate_left
          ·
           simp only [putAll, Act.put, List.setIfInBounds_toArray, List.set_cons_zero, List.set_cons_succ]
           rfl
          refine two_ (i := 2) (j := 7) (Ni := some 8) (Nj := some 3) #[true, true, true, true, true, true, false, false, false] #[true, true, false, true, true, true, false, true, false] rfl rfl rfl rfl (two_of HT_.out (by kernel_rfl)) (by decide) (by decide) (fun K hK => ?_) (fun K hK => ?_)
          ·
           skip
           refine Kd.N_make_step (Kd.slice 3 (Kd.int .i64)) _ 27 (by rfl) (N' := 8) rfl 22 _ _ rfl (l0.length : Int) rfl rfl Try.underlying22 (.slice none 0 0) 24 info27 rfl (by decide) (by omega) [] (ok := fun k_ => w10.heap.size ≤ k_) (okp := fun _ => False) (Kd.FK_slice_mk (Nat.le_refl _) (Kd.F_nil _ _ _)) (fun _ hk => hk.elim) (Nat.le_refl _) (of_decide_eq_true p2_5) (Nat.le_trans (Nat.mul_le_mul_right _ (of_decide_eq_true p2_5 : (l0.length : Int).toNat ≤ 11728124029610)) (by omega)) (Below.refl _ _) (Nat.le_refl _) ?_
           intro v123 w11 ho12 hb hg_ hnew_
           clear hg_ hnew_
           (first | rw [← Ny122.out] at ho12 | (simp only [Int.reduceToNat] at ho12; rw [← Ny122.out] at ho12))
           have n0_ := Aside0.mk (Kd.V_elder' p2_6 (Kd.N_base ho12) hb)
           have n1_ := Aside0.mk (Kd.R_below p2_7 hb)
           have n2_ := Aside0.mk (Kd.N_lower (Kd.N_mono (ok' := fun k_ => (P0_ k_ ∨ w.heap.size ≤ k_) ∧ some k_ ≠ (v126 : Value).ownBlock ∧ k_ ≠ gb121) ho12 (fun k_ hk_ => ⟨(.inr (Nat.le_trans (below_size p2_2) hk_)), (Kd.fresh' (Kd.R_lt p2_7) k_ hk_), (Kd.freshB (g := gb121) (o := .cells #[.slice none 0 0, .slice none 0 0, .slice none 0 0] 74 (0, 0)) p2_1 k_ hk_)⟩)) (below_size p2_2))
           have n3_ := Aside0.mk (blk_below (g := gb121) (o := .cells #[.slice none 0 0, .slice none 0 0, .slice none 0 0] 74 (0, 0)) p2_1 hb)
           have n4_ := Aside0.mk (below_step p2_2 hb)
           clear HO0
           clear HO127
           clear BK121
           clear HB
           have HO0 := n0_
           have HO127 := n1_
           have HO124 := n2_
           have BK121 := n3_
           have HB := n4_
           clear n0_ n1_ n2_ n3_ n4_
           clear hb ho12
           obtain ⟨Ao13, co13, eo13⟩ := Kd.R_slice HO127.out
           (first | subst eo13 | (injection eo13 with f1_ f2_ f3_; have f4_ := f1_.symm; have f5_ := f3_.symm; clear f1_ f2_ f3_; subst f4_; subst f5_))
           obtain ⟨Ao14, co14, eo14⟩ := Kd.N_slice HO124.out
           (first | subst eo14 | (injection eo14 with f1_ f2_ f3_; have f4_ := f1_.symm; have f5_ := f3_.symm; clear f1_ f2_ f3_; subst f4_; subst f5_))
           refine hK.out _ _ trivial (fun hHeld => ?_)
           clear hK K
           refine norm_ (a' := ?_) ?_ ?_
           rotate_left
           ·
            show Act.put _ (some 8) _ = _
            simp only [Act.put, List.setIfInBounds_toArray, List.set_cons_zero, List.set_cons_succ, i64_w, i32_w]
            rfl
           refine pure_ (i := 6) (N := some 12) (v := ?_) (a' := ?_) #[true, true, true, true, true, true, true, false, false] rfl rfl (any_of HT_.out (by kernel_rfl)) (fun _ _ _ h => h) (Or.inl ⟨by rfl, ?_⟩) ?_ ?_
           rotate_left
           ·
            intro w'
            go_simp
            with_reducible rfl
           rotate_left
           ·
            simp only [Act.put, List.setIfInBounds_toArray, List.set_cons_zero, List.set_cons_succ, i64_w, i32_w]
            rfl
           exact norm_ p2_3 (hJ2_5 (.slice Ao14 y122.length co14, .slice Ao13 y125.length co13) _ ⟨p2_11, p2_8, p2_7, p2_1, p2_2⟩)
          ·
           skip
           refine box_step ?hg (N := 3) ?hd (cs := #[.slice none 0 0, .slice none 0 0, .slice none 0 0]) (t := 74) ?hr ?_; (case hd => rfl); (case hg => rfl); (case hr => first | (go_simp; done) | (go_simp; rfl))
           intro gb128 hg w11 hbox hb
           have n0_ := Aside0.mk (Kd.V_below (Kd.V_elderB p2_6 gb128 (Nat.le_of_eq hg.symm)) hb)
           have n1_ := Aside0.mk (Kd.R_below p2_7 hb)
           have n2_ := Aside0.mk (blk_below (g := gb121) (o := .cells #[.slice none 0 0, .slice none 0 0, .slice none 0 0] 74 (0, 0)) p2_1 hb)
           have n3_ := Aside0.mk (below_step p2_2 hb)
           have n4_ := Aside0.mk (hbox)
           have n5_ := Aside0.mk ((by rw [hg]; exact (below_size p2_2) : w.heap.size ≤ gb128))
           have n6_ := Aside0.mk ((by rw [hg]; exact (below_size p2_2) : w.heap.size ≤ gb128))
           have n7_ := Aside0.mk ((by rw [hg]; exact Nat.ne_of_lt (blk_lt (g := gb121) (o := .cells #[.slice none 0 0, .slice none 0 0, .slice none 0 0] 74 (0, 0)) p2_1) : gb121 ≠ gb128))
           have n8_ := Aside0.mk ((by rw [hg]; exact Nat.ne_of_gt (blk_lt (g := gb121) (o := .cells #[.slice none 0 0, .slice none 0 0, .slice none 0 0] 74 (0, 0)) p2_1) : gb128 ≠ gb121))
           clear HO0
           clear HO127
           clear BK121
           clear HB
           have HO0 := n0_
           have HO127 := n1_
           have BK121 := n2_
           have HB := n3_
           have BK128 := n4_
           have GW128 := n5_
           have GE128 := n6_
           have NB121_128 := n7_
           have NB128_121 := n8_
           clear n0_ n1_ n2_ n3_ n4_ n5_ n6_ n7_ n8_
           clear hb hbox hg
           refine hK.out _ _ trivial (fun hHeld => ?_)
           clear hK K
           refine norm_ (a' := ?_) ?_ ?_
           rotate_left
           ·
            show Act.put _ (some 3) _ = _
            simp only [Act.put, List.setIfInBounds_toArray, List.set_cons_zero, List.set_cons_succ, i64_w, i32_w]
            rfl
           exact norm_ p2_3 (hJ5_7 (v126, gb128) _ ⟨p2_14, p2_7, p2_1, p2_4, GW128.out, GE128.out, NB121_128.out, NB128_121.out, p2_0⟩)
        ·
         skip
         rintro v123 w10 ⟨h0_, h1_, h2_, h3_⟩
         have n0_ : Aside0 (Kd.V (Kd.slice 3 (Kd.int .i64)) 27 w10 w.heap.size (fun k_ => (P0_ k_ ∨ w.heap.size ≤ k_) ∧ some k_ ≠ (v123 : Value).ownBlock ∧ k_ ≠ gb121) (.slice A0 l0.length c0) l0) := ⟨h0_⟩
         have n1_ : Aside0 (Kd.N (Kd.slice 3 (Kd.int .i64)) 27 w10 w.heap.size (fun k_ => (P0_ k_ ∨ w.heap.size ≤ k_) ∧ k_ ≠ gb121) v123 y122) := ⟨h1_⟩
         have n2_ : Aside0 (w10.heap[gb121]? = some (.cells #[.slice none 0 0, .slice none 0 0, .slice none 0 0] 74 (0, 0))) := ⟨h2_⟩
         have n3_ : Aside0 (Below w.heap.size w w10) := ⟨h3_⟩
         clear HO0
         clear BK121
         clear HB
         clear h0_ h1_ h2_ h3_
         have HO0 := n0_
         have HO124 := n1_
         have BK121 := n2_
         have HB := n3_
         clear n0_ n1_ n2_ n3_
         have hHeld := trivial
         refine norm_ (a' := ?_) ?_ ?_
         rotate_left
         ·
          simp only [putAll, Act.put, List.setIfInBounds_toArray, List.set_cons_zero, List.set_cons_succ]
          rfl
         refine two_ (i := 5) (j := 7) (Ni := some 11) (Nj := some 3) #[true, true, true, true, true, true, false, false, false] #[true, true, true, true, true, false, false, true, false] rfl rfl rfl rfl (two_of HT_.out (by kernel_rfl)) (by decide) (by decide) (fun K hK => ?_) (fun K hK => ?_)
         ·
          skip
          refine Kd.R_make_step Kd.bool _ 4 (by rfl) (N := 11) rfl 25 _ _ rfl (l0.length : Int) rfl rfl Try.underlying25 (.bool false) 1 info4 rfl (by decide) (by omega) false (ok := fun _ => True) (okp := fun _ => True) rfl (fun _ hk => hk) trivial (of_decide_eq_true p2_5) (Nat.le_trans (Nat.mul_le_mul_right _ (of_decide_eq_true p2_5 : (l0.length : Int).toNat ≤ 281474976710656)) (by omega)) (Below.refl _ _) (Nat.le_refl _) ?_
          intro v126 w11 ho12 hb hg_ hnew_
          clear hg_ hnew_
          (first | rw [← Ny125.out] at ho12 | (simp only [Int.reduceToNat] at ho12; rw [← Ny125.out] at ho12))
          have n0_ := Aside0.mk (Kd.V_elder' p2_6 (Kd.R_base ho12) hb)
          have n1_ := Aside0.mk (Kd.N_elder' p2_8 (Kd.R_base ho12) hb)
          have n2_ := Aside0.mk (Kd.R_lower (Kd.R_newM (M := fun k_ => (w.heap.size ≤ k_)) ho12 (below_size p2_2) (fun k_ h_ => h_)) (below_size p2_2))
          have n3_ := Aside0.mk (blk_below (g := gb121) (o := .cells #[.slice none 0 0, .slice none 0 0, .slice none 0 0] 74 (0, 0)) p2_1 hb)
          have n4_ := Aside0.mk (below_step p2_2 hb)
          clear HO0
          clear HO124
          clear BK121
          clear HB
          have HO0 := n0_
          have HO124 := n1_
          have HO127 := n2_
          have BK121 := n3_
          have HB := n4_
          clear n0_ n1_ n2_ n3_ n4_
          clear hb ho12
          obtain ⟨Ao13, co13, eo13⟩ := Kd.R_slice HO127.out
          (first | subst eo13 | (injection eo13 with f1_ f2_ f3_; have f4_ := f1_.symm; have f5_ := f3_.symm; clear f1_ f2_ f3_; subst f4_; subst f5_))
          obtain ⟨Ao14, co14, eo14⟩ := Kd.N_slice HO124.out
          (first | subst eo14 | (injection eo14 with f1_ f2_ f3_; have f4_ := f1_.symm; have f5_ := f3_.symm; clear f1_ f2_ f3_; subst f4_; subst f5_))
          refine hK.out _ _ trivial (fun hHeld => ?_)
          clear hK K
          refine norm_ (a' := ?_) ?_ ?_
          rotate_left
          ·
           show Act.put _ (some 11) _ = _
           simp only [Act.put, List.setIfInBounds_toArray, List.set_cons_zero, List.set_cons_succ, i64_w, i32_w]
           rfl
          refine pure_ (i := 6) (N := some 12) (v := ?_) (a' := ?_) #[true, true, true, true, true, true, true, false, false] rfl rfl (any_of HT_.out (by kernel_rfl)) (fun _ _ _ h => h) (Or.inl ⟨by rfl, ?_⟩) ?_ ?_
          rotate_left
          ·
           intro w'
           go_simp
           with_reducible rfl
          rotate_left
          ·
           simp only [Act.put, List.setIfInBounds_toArray, List.set_cons_zero, List.set_cons_succ, i64_w, i32_w]
           rfl
          exact norm_ p2_3 (hJ2_5 (.slice Ao14 y122.length co14, .slice Ao13 y125.length co13) _ ⟨(by (with_reducible repeat (first | apply Kd.V_alloc | apply Kd.V_drewN | apply Kd.V_drew)); exact Kd.V_mono HO0.out (fun _ hk => ⟨hk.1.1, ⟨hk.1.2.1, ⟨hk.2, hk.1.2.2⟩⟩⟩)), (by (with_reducible repeat (first | apply Kd.N_alloc | apply Kd.N_drewN | apply Kd.N_drew)); exact Kd.N_mono HO124.out (fun _ hk => ⟨hk.1.1, ⟨hk.2, hk.1.2⟩⟩)), p2_10, p2_1, p2_2⟩)
         ·
          skip
          refine box_step ?hg (N := 3) ?hd (cs := #[.slice none 0 0, .slice none 0 0, .slice none 0 0]) (t := 74) ?hr ?_; (case hd => rfl); (case hg => rfl); (case hr => first | (go_simp; done) | (go_simp; rfl))
          intro gb128 hg w11 hbox hb
          have n0_ := Aside0.mk (Kd.V_below (Kd.V_elderB p2_6 gb128 (Nat.le_of_eq hg.symm)) hb)
          have n1_ := Aside0.mk (Kd.N_below (Kd.N_elderB p2_8 gb128 (Nat.le_of_eq hg.symm)) hb)
          have n2_ := Aside0.mk (blk_below (g := gb121) (o := .cells #[.slice none 0 0, .slice none 0 0, .slice none 0 0] 74 (0, 0)) p2_1 hb)
          have n3_ := Aside0.mk (below_step p2_2 hb)
          have n4_ := Aside0.mk (hbox)
          have n5_ := Aside0.mk ((by rw [hg]; exact (below_size p2_2) : w.heap.size ≤ gb128))
          have n6_ := Aside0.mk ((by rw [hg]; exact (below_size p2_2) : w.heap.size ≤ gb128))
          have n7_ := Aside0.mk ((by rw [hg]; exact Nat.ne_of_lt (blk_lt (g := gb121) (o := .cells #[.slice none 0 0, .slice none 0 0, .slice none 0 0] 74 (0, 0)) p2_1) : gb121 ≠ gb128))
          have n8_ := Aside0.mk ((by rw [hg]; exact Nat.ne_of_gt (blk_lt (g := gb121) (o := .cells #[.slice none 0 0, .slice none 0 0, .slice none 0 0] 74 (0, 0)) p2_1) : gb128 ≠ gb121))
          clear HO0
          clear HO124
          clear BK121
          clear HB
          have HO0 := n0_
          have HO124 := n1_
          have BK121 := n2_
          have HB := n3_
          have BK128 := n4_
          have GW128 := n5_
          have GE128 := n6_
          have NB121_128 := n7_
          have NB128_121 := n8_
          clear n0_ n1_ n2_ n3_ n4_ n5_ n6_ n7_ n8_
          clear hb hbox hg
          refine hK.out _ _ trivial (fun hHeld => ?_)
          clear hK K
          refine norm_ (a' := ?_) ?_ ?_
          rotate_left
          ·
           show Act.put _ (some 3) _ = _
           simp only [Act.put, List.setIfInBounds_toArray, List.set_cons_zero, List.set_cons_succ, i64_w, i32_w]
           rfl
          exact norm_ p2_3 (hJ2_7 (v123, gb128) _ ⟨p2_14, (by (with_reducible repeat (first | apply Kd.N_alloc | apply Kd.N_drewN | apply Kd.N_drew)); exact Kd.N_mono HO124.out (fun _ hk => ⟨hk.1.1, ⟨hk.1.2, hk.2⟩⟩)), p2_1, p2_4, GW128.out, GE128.out, NB121_128.out, NB128_121.out, p2_0⟩)
       ·
        skip
        rintro ⟨v126, gb128⟩ w11 ⟨h0_, h1_, h2_, h3_, h4_, h5_, h6_, h7_, h8_⟩
        have n0_ : Aside0 (Kd.V (Kd.slice 3 (Kd.int .i64)) 27 w11 w.heap.size (fun k_ => (P0_ k_ ∨ w.heap.size ≤ k_) ∧ some k_ ≠ (v126 : Value).ownBlock ∧ k_ ≠ gb121 ∧ k_ ≠ gb128) (.slice A0 l0.length c0) l0) := ⟨h0_⟩
        have n1_ : Aside0 (Kd.R Kd.bool 4 w11 w.heap.size (fun k_ => (w.heap.size ≤ k_)) v126 y125) := ⟨h1_⟩
        have n2_ : Aside0 (w11.heap[gb121]? = some (.cells #[.slice none 0 0, .slice none 0 0, .slice none 0 0] 74 (0, 0))) := ⟨h2_⟩
        have n3_ : Aside0 (w11.heap[gb128]? = some (.cells #[.slice none 0 0, .slice none 0 0, .slice none 0 0] 74 (0, 0))) := ⟨h3_⟩
        have n4_ : Aside0 (w.heap.size ≤ gb128) := ⟨h4_⟩
        have n5_ : Aside0 (w.heap.size ≤ gb128) := ⟨h5_⟩
        have n6_ : Aside0 (gb121 ≠ gb128) := ⟨h6_⟩
        have n7_ : Aside0 (gb128 ≠ gb121) := ⟨h7_⟩
        have n8_ : Aside0 (Below w.heap.size w w11) := ⟨h8_⟩
        clear HO0
        clear BK121
        clear HB
        clear h0_ h1_ h2_ h3_ h4_ h5_ h6_ h7_ h8_
        have HO0 := n0_
        have HO127 := n1_
        have BK121 := n2_
        have BK128 := n3_
        have GW128 := n4_
        have GE128 := n5_
        have NB121_128 := n6_
        have NB128_121 := n7_
        have HB := n8_
        clear n0_ n1_ n2_ n3_ n4_ n5_ n6_ n7_ n8_
        have hHeld := trivial
        refine norm_ (a' := ?_) ?_ ?_
        rotate_left
        ·
         simp only [putAll, Act.put, List.setIfInBounds_toArray, List.set_cons_zero, List.set_cons_succ]
         rfl
        refine one_ (i := 2) (N := some 8) #[true, true, true, true, true, true, false, true, false] rfl rfl (one_of HT_.out (by kernel_rfl)) (by decide) (fun K hK => ?_)
        refine Kd.N_make_step (Kd.slice 3 (Kd.int .i64)) _ 27 (by rfl) (N' := 8) rfl 22 _ _ rfl (l0.length : Int) rfl rfl Try.underlying22 (.slice none 0 0) 24 info27 rfl (by decide) (by omega) [] (ok := fun k_ => w11.heap.size ≤ k_) (okp := fun _ => False) (Kd.FK_slice_mk (Nat.le_refl _) (Kd.F_nil _ _ _)) (fun _ hk => hk.elim) (Nat.le_refl _) (of_decide_eq_true p2_5) (Nat.le_trans (Nat.mul_le_mul_right _ (of_decide_eq_true p2_5 : (l0.length : Int).toNat ≤ 11728124029610)) (by omega)) (Below.refl _ _) (Nat.le_refl _) ?_
        intro v123 w12 ho13 hb hg_ hnew_
        clear hg_ hnew_
        (first | rw [← Ny122.out] at ho13 | (simp only [Int.reduceToNat] at ho13; rw [← Ny122.out] at ho13))
        have n0_ := Aside0.mk (Kd.V_elder' p2_6 (Kd.N_base ho13) hb)
        have n1_ := Aside0.mk (Kd.R_below p2_7 hb)
        have n2_ := Aside0.mk (Kd.N_lower (Kd.N_mono (ok' := fun k_ => (P0_ k_ ∨ w.heap.size ≤ k_) ∧ some k_ ≠ (v126 : Value).ownBlock ∧ k_ ≠ gb121 ∧ k_ ≠ gb128) ho13 (fun k_ hk_ => ⟨(.inr (Nat.le_trans (below_size p2_0) hk_)), (Kd.fresh' (Kd.R_lt p2_7) k_ hk_), (Kd.freshB (g := gb121) (o := .cells #[.slice none 0 0, .slice none 0 0, .slice none 0 0] 74 (0, 0)) p2_1 k_ hk_), (Kd.freshB (g := gb128) (o := .cells #[.slice none 0 0, .slice none 0 0, .slice none 0 0] 74 (0, 0)) p2_4 k_ hk_)⟩)) (below_size p2_0))
        have n3_ := Aside0.mk (blk_below (g := gb121) (o := .cells #[.slice none 0 0, .slice none 0 0, .slice none 0 0] 74 (0, 0)) p2_1 hb)
        have n4_ := Aside0.mk (blk_below (g := gb128) (o := .cells #[.slice none 0 0, .slice none 0 0, .slice none 0 0] 74 (0, 0)) p2_4 hb)
        have n5_ := Aside0.mk (below_step p2_0 hb)
        clear HO0
        clear HO127
        clear BK121
        clear BK128
        clear HB
        have HO0 := n0_
        have HO127 := n1_
        have HO124 := n2_
        have BK121 := n3_
        have BK128 := n4_
        have HB := n5_
        clear n0_ n1_ n2_ n3_ n4_ n5_
        clear hb ho13
        obtain ⟨Ao14, co14, eo14⟩ := Kd.R_slice HO127.out
        (first | subst eo14 | (injection eo14 with f1_ f2_ f3_; have f4_ := f1_.symm; have f5_ := f3_.symm; clear f1_ f2_ f3_; subst f4_; subst f5_))
        obtain ⟨Ao15, co15, eo15⟩ := Kd.N_slice HO124.out
        (first | subst eo15 | (injection eo15 with f1_ f2_ f3_; have f4_ := f1_.symm; have f5_ := f3_.symm; clear f1_ f2_ f3_; subst f4_; subst f5_))
        refine hK.out _ _ trivial (fun hHeld => ?_)
        clear hK K
        refine norm_ (a' := ?_) ?_ ?_
        rotate_left
        ·
         show Act.put _ (some 8) _ = _
         simp only [Act.put, List.setIfInBounds_toArray, List.set_cons_zero, List.set_cons_succ, i64_w, i32_w]
         rfl
        refine pure_ (i := 6) (N := some 12) (v := ?_) (a' := ?_) #[true, true, true, true, true, true, true, true, false] rfl rfl (any_of HT_.out (by kernel_rfl)) (fun _ _ _ h => h) (Or.inl ⟨by rfl, ?_⟩) ?_ ?_
        rotate_left
        ·
         intro w'
         go_simp
         with_reducible rfl
        rotate_left
        ·
         simp only [Act.put, List.setIfInBounds_toArray, List.set_cons_zero, List.set_cons_succ, i64_w, i32_w]
         rfl
        exact norm_ p2_3 (hJ2_5_7 (.slice Ao15 y122.length co15, .slice Ao14 y125.length co14, gb128) _ ⟨(by (with_reducible repeat (first | apply Kd.V_alloc | apply Kd.V_drewN | apply Kd.V_drew)); exact Kd.V_mono HO0.out (fun _ hk => ⟨hk.1.1, ⟨hk.2, ⟨hk.1.2.1, ⟨hk.1.2.2.1, hk.1.2.2.2⟩⟩⟩⟩)), p2_8, p2_7, p2_1, p2_4, GW128.out, GE128.out, NB121_128.out, NB128_121.out, p2_0⟩)
      ·
       skip
       rintro ⟨v123, gb128⟩ w11 ⟨h0_, h1_, h2_, h3_, h4_, h5_, h6_, h7_, h8_⟩
       have n0_ : Aside0 (Kd.V (Kd.slice 3 (Kd.int .i64)) 27 w11 w.heap.size (fun k_ => (P0_ k_ ∨ w.heap.size ≤ k_) ∧ some k_ ≠ (v123 : Value).ownBlock ∧ k_ ≠ gb121 ∧ k_ ≠ gb128) (.slice A0 l0.length c0) l0) := ⟨h0_⟩
       have n1_ : Aside0 (Kd.N (Kd.slice 3 (Kd.int .i64)) 27 w11 w.heap.size (fun k_ => (P0_ k_ ∨ w.heap.size ≤ k_) ∧ k_ ≠ gb121 ∧ k_ ≠ gb128) v123 y122) := ⟨h1_⟩
       have n2_ : Aside0 (w11.heap[gb121]? = some (.cells #[.slice none 0 0, .slice none 0 0, .slice none 0 0] 74 (0, 0))) := ⟨h2_⟩
       have n3_ : Aside0 (w11.heap[gb128]? = some (.cells #[.slice none 0 0, .slice none 0 0, .slice none 0 0] 74 (0, 0))) := ⟨h3_⟩
       have n4_ : Aside0 (w.heap.size ≤ gb128) := ⟨h4_⟩
       have n5_ : Aside0 (w.heap.size ≤ gb128) := ⟨h5_⟩
       have n6_ : Aside0 (gb121 ≠ gb128) := ⟨h6_⟩
       have n7_ : Aside0 (gb128 ≠ gb121) := ⟨h7_⟩
       have n8_ : Aside0 (Below w.heap.size w w11) := ⟨h8_⟩
       clear HO0
       clear BK121
       clear HB
       clear h0_ h1_ h2_ h3_ h4_ h5_ h6_ h7_ h8_
       have HO0 := n0_
       have HO124 := n1_
       have BK121 := n2_
       have BK128 := n3_
       have GW128 := n4_
       have GE128 := n5_
       have NB121_128 := n6_
       have NB128_121 := n7_
       have HB := n8_
       clear n0_ n1_ n2_ n3_ n4_ n5_ n6_ n7_ n8_
       have hHeld := trivial
       refine norm_ (a' := ?_) ?_ ?_
       rotate_left
       ·
        simp only [putAll, Act.put, List.setIfInBounds_toArray, List.set_cons_zero, List.set_cons_succ]
        rfl
       refine one_ (i := 5) (N := some 11) #[true, true, true, true, true, true, false, true, false] rfl rfl (one_of HT_.out (by kernel_rfl)) (by decide) (fun K hK => ?_)
       refine Kd.R_make_step Kd.bool _ 4 (by rfl) (N := 11) rfl 25 _ _ rfl (l0.length : Int) rfl rfl Try.underlying25 (.bool false) 1 info4 rfl (by decide) (by omega) false (ok := fun _ => True) (okp := fun _ => True) rfl (fun _ hk => hk) trivial (of_decide_eq_true p2_5) (Nat.le_trans (Nat.mul_le_mul_right _ (of_decide_eq_true p2_5 : (l0.length : Int).toNat ≤ 281474976710656)) (by omega)) (Below.refl _ _) (Nat.le_refl _) ?_
       intro v126 w12 ho13 hb hg_ hnew_
       clear hg_ hnew_
       (first | rw [← Ny125.out] at ho13 | (simp only [Int.reduceToNat] at ho13; rw [← Ny125.out] at ho13))
       have n0_ := Aside0.mk (Kd.V_elder' p2_6 (Kd.R_base ho13) hb)
       have n1_ := Aside0.mk (Kd.N_elder' p2_8 (Kd.R_base ho13) hb)
       have n2_ := Aside0.mk (Kd.R_lower (Kd.R_newM (M := fun k_ => (w.heap.size ≤ k_)) ho13 (below_size p2_0) (fun k_ h_ => h_)) (below_size p2_0))
       have n3_ := Aside0.mk (blk_below (g := gb121) (o := .cells #[.slice none 0 0, .slice none 0 0, .slice none 0 0] 74 (0, 0)) p2_1 hb)
       have n4_ := Aside0.mk (blk_below (g := gb128) (o := .cells #[.slice none 0 0, .slice none 0 0, .slice none 0 0] 74 (0, 0)) p2_4 hb)
       have n5_ := Aside0.mk (below_step p2_0 hb)
       clear HO0
       clear HO124
       clear BK121
       clear BK128
       clear HB
       have HO0 := n0_
       have HO124 := n1_
       have HO127 := n2_
       have BK121 := n3_
       have BK128 := n4_
       have HB := n5_
       clear n0_ n1_ n2_ n3_ n4_ n5_
       clear hb ho13
       obtain ⟨Ao14, co14, eo14⟩ := Kd.R_slice HO127.out
       (first | subst eo14 | (injection eo14 with f1_ f2_ f3_; have f4_ := f1_.symm; have f5_ := f3_.symm; clear f1_ f2_ f3_; subst f4_; subst f5_))
       obtain ⟨Ao15, co15, eo15⟩ := Kd.N_slice HO124.out
       (first | subst eo15 | (injection eo15 with f1_ f2_ f3_; have f4_ := f1_.symm; have f5_ := f3_.symm; clear f1_ f2_ f3_; subst f4_; subst f5_))
       refine hK.out _ _ trivial (fun hHeld => ?_)
       clear hK K
       refine norm_ (a' := ?_) ?_ ?_
       rotate_left
       ·
        show Act.put _ (some 11) _ = _
        simp only [Act.put, List.setIfInBounds_toArray, List.set_cons_zero, List.set_cons_succ, i64_w, i32_w]
        rfl
       refine pure_ (i := 6) (N := some 12) (v := ?_) (a' := ?_) #[true, true, true, true, true, true, true, true, false] rfl rfl (any_of HT_.out (by kernel_rfl)) (fun _ _ _ h => h) (Or.inl ⟨by rfl, ?_⟩) ?_ ?_
       rotate_left
       ·
        intro w'
        go_simp
        with_reducible rfl
       rotate_left
       ·
        simp only [Act.put, List.setIfInBounds_toArray, List.set_cons_zero, List.set_cons_succ, i64_w, i32_w]
        rfl
       exact norm_ p2_3 (hJ2_5_7 (.slice Ao15 y122.length co15, .slice Ao14 y125.length co14, gb128) _ ⟨(by (with_reducible repeat (first | apply Kd.V_alloc | apply Kd.V_drewN | apply Kd.V_drew)); exact Kd.V_mono HO0.out (fun _ hk => ⟨hk.1.1, ⟨hk.1.2.1, ⟨hk.2, ⟨hk.1.2.2.1, hk.1.2.2.2⟩⟩⟩⟩)), (by (with_reducible repeat (first | apply Kd.N_alloc | apply Kd.N_drewN | apply Kd.N_drew)); exact Kd.N_mono HO124.out (fun _ hk => ⟨hk.1.1, ⟨hk.2, ⟨hk.1.2.1, hk.1.2.2⟩⟩⟩)), p2_10, p2_1, p2_4, GW128.out, GE128.out, NB121_128.out, NB128_121.out, p2_0⟩)
     ·
      skip
      rintro ⟨v123, v126⟩ w14 ⟨h0_, h1_, h2_, h3_, h4_⟩
      have n0_ : Aside0 (Kd.V (Kd.slice 3 (Kd.int .i64)) 27 w14 w.heap.size (fun k_ => (P0_ k_ ∨ w.heap.size ≤ k_) ∧ some k_ ≠ (v123 : Value).ownBlock ∧ some k_ ≠ (v126 : Value).ownBlock ∧ k_ ≠ gb121) (.slice A0 l0.length c0) l0) := ⟨h0_⟩
      have n1_ : Aside0 (Kd.N (Kd.slice 3 (Kd.int .i64)) 27 w14 w.heap.size (fun k_ => (P0_ k_ ∨ w.heap.size ≤ k_) ∧ some k_ ≠ (v126 : Value).ownBlock ∧ k_ ≠ gb121) v123 y122) := ⟨h1_⟩
      have n2_ : Aside0 (Kd.R Kd.bool 4 w14 w.heap.size (fun k_ => (w.heap.size ≤ k_)) v126 y125) := ⟨h2_⟩
      have n3_ : Aside0 (w14.heap[gb121]? = some (.cells #[.slice none 0 0, .slice none 0 0, .slice none 0 0] 74 (0, 0))) := ⟨h3_⟩
      have n4_ : Aside0 (Below w.heap.size w w14) := ⟨h4_⟩
      clear HO0
      clear BK121
      clear HB
      clear h0_ h1_ h2_ h3_ h4_
      have HO0 := n0_
      have HO124 := n1_
      have HO127 := n2_
      have BK121 := n3_
      have HB := n4_
      clear n0_ n1_ n2_ n3_ n4_
      have hHeld := trivial
      obtain ⟨Ao15, co15, eo15⟩ := Kd.R_slice HO127.out
      (first | subst eo15 | (injection eo15 with f1_ f2_ f3_; have f4_ := f1_.symm; have f5_ := f3_.symm; clear f1_ f2_ f3_; subst f4_; subst f5_))
      obtain ⟨Ao16, co16, eo16⟩ := Kd.N_slice HO124.out
      (first | subst eo16 | (injection eo16 with f1_ f2_ f3_; have f4_ := f1_.symm; have f5_ := f3_.symm; clear f1_ f2_ f3_; subst f4_; subst f5_))
      refine norm_ (a' := ?_) ?_ ?_
      rotate_left
      ·
       simp only [putAll, Act.put, List.setIfInBounds_toArray, List.set_cons_zero, List.set_cons_succ]
       rfl
      refine one_ (i := 7) (N := some 3) #[true, true, true, true, true, true, true, true, false] rfl rfl (one_of HT_.out (by kernel_rfl)) (by decide) (fun K hK => ?_)
      refine box_step ?hg (N := 3) ?hd (cs := #[.slice none 0 0, .slice none 0 0, .slice none 0 0]) (t := 74) ?hr ?_; (case hd => rfl); (case hg => rfl); (case hr => first | (go_simp; done) | (go_simp; rfl))
      intro gb128 hg w17 hbox hb
      have n0_ := Aside0.mk (Kd.V_below (Kd.V_elderB p2_6 gb128 (Nat.le_of_eq hg.symm)) hb)
      have n1_ := Aside0.mk (Kd.N_below (Kd.N_elderB p2_8 gb128 (Nat.le_of_eq hg.symm)) hb)
      have n2_ := Aside0.mk (Kd.R_below p2_7 hb)
      have n3_ := Aside0.mk (blk_below (g := gb121) (o := .cells #[.slice none 0 0, .slice none 0 0, .slice none 0 0] 74 (0, 0)) p2_1 hb)
      have n4_ := Aside0.mk (below_step p2_2 hb)
      have n5_ := Aside0.mk (hbox)
      have n6_ := Aside0.mk ((by rw [hg]; exact (below_size p2_2) : w.heap.size ≤ gb128))
      have n7_ := Aside0.mk ((by rw [hg]; exact (below_size p2_2) : w.heap.size ≤ gb128))
      have n8_ := Aside0.mk ((by rw [hg]; exact Nat.ne_of_lt (blk_lt (g := gb121) (o := .cells #[.slice none 0 0, .slice none 0 0, .slice none 0 0] 74 (0, 0)) p2_1) : gb121 ≠ gb128))
      have n9_ := Aside0.mk ((by rw [hg]; exact Nat.ne_of_gt (blk_lt (g := gb121) (o := .cells #[.slice none 0 0, .slice none 0 0, .slice none 0 0] 74 (0, 0)) p2_1) : gb128 ≠ gb121))
      clear HO0
      clear HO124
      clear HO127
      clear BK121
      clear HB
      have HO0 := n0_
      have HO124 := n1_
      have HO127 := n2_
      have BK121 := n3_
      have HB := n4_
      have BK128 := n5_
      have GW128 := n6_
      have GE128 := n7_
      have NB121_128 := n8_
      have NB128_121 := n9_
      clear n0_ n1_ n2_ n3_ n4_ n5_ n6_ n7_ n8_ n9_
      clear hb hbox hg
      refine hK.out _ _ trivial (fun hHeld => ?_)
      clear hK K
      refine norm_ (a' := ?_) ?_ ?_
      rotate_left
      ·
       show Act.put _ (some 3) _ = _
       simp only [Act.put, List.setIfInBounds_toArray, List.set_cons_zero, List.set_cons_succ, i64_w, i32_w]
       rfl
      exact norm_ p2_3 (hJ2_5_7 (.slice Ao16 y122.length co16, .slice Ao15 y125.length co15, gb128) _ ⟨(by (with_reducible repeat (first | apply Kd.V_alloc | apply Kd.V_drewN | apply Kd.V_drew)); exact Kd.V_mono HO0.out (fun _ hk => ⟨hk.1.1, ⟨hk.1.2.1, ⟨hk.1.2.2.1, ⟨hk.1.2.2.2, hk.2⟩⟩⟩⟩)), (by (with_reducible repeat (first | apply Kd.N_alloc | apply Kd.N_drewN | apply Kd.N_drew)); exact Kd.N_mono HO124.out (fun _ hk => ⟨hk.1.1, ⟨hk.1.2.1, ⟨hk.1.2.2, hk.2⟩⟩⟩)), p2_7, p2_1, p2_4, GW128.out, GE128.out, NB121_128.out, NB128_121.out, p2_0⟩)
    rintro ⟨v123, v126, gb128⟩ w15 ⟨h0_, h1_, h2_, h3_, h4_, h5_, h6_, h7_, h8_, h9_⟩
    have n0_ : Aside0 (Kd.V (Kd.slice 3 (Kd.int .i64)) 27 w15 w.heap.size (fun k_ => (P0_ k_ ∨ w.heap.size ≤ k_) ∧ some k_ ≠ (v123 : Value).ownBlock ∧ some k_ ≠ (v126 : Value).ownBlock ∧ k_ ≠ gb121 ∧ k_ ≠ gb128) (.slice A0 l0.length c0) l0) := ⟨h0_⟩
    have n1_ : Aside0 (Kd.N (Kd.slice 3 (Kd.int .i64)) 27 w15 w.heap.size (fun k_ => (P0_ k_ ∨ w.heap.size ≤ k_) ∧ some k_ ≠ (v126 : Value).ownBlock ∧ k_ ≠ gb121 ∧ k_ ≠ gb128) v123 y122) := ⟨h1_⟩
    have n2_ : Aside0 (Kd.R Kd.bool 4 w15 w.heap.size (fun k_ => (w.heap.size ≤ k_)) v126 y125) := ⟨h2_⟩
    have n3_ : Aside0 (w15.heap[gb121]? = some (.cells #[.slice none 0 0, .slice none 0 0, .slice none 0 0] 74 (0, 0))) := ⟨h3_⟩
    have n4_ : Aside0 (w15.heap[gb128]? = some (.cells #[.slice none 0 0, .slice none 0 0, .slice none 0 0] 74 (0, 0))) := ⟨h4_⟩
    have n5_ : Aside0 (w.heap.size ≤ gb128) := ⟨h5_⟩
    have n6_ : Aside0 (w.heap.size ≤ gb128) := ⟨h6_⟩
    have n7_ : Aside0 (gb121 ≠ gb128) := ⟨h7_⟩
    have n8_ : Aside0 (gb128 ≠ gb121) := ⟨h8_⟩
    have n9_ : Aside0 (Below w.heap.size w w15) := ⟨h9_⟩
    clear HO0
    clear BK121
    clear HB
    clear h0_ h1_ h2_ h3_ h4_ h5_ h6_ h7_ h8_ h9_
    have HO0 := n0_
    have HO124 := n1_
    have HO127 := n2_
    have BK121 := n3_
    have BK128 := n4_
    have GW128 := n5_
    have GE128 := n6_
    have NB121_128 := n7_
    have NB128_121 := n8_
    have HB := n9_
    clear n0_ n1_ n2_ n3_ n4_ n5_ n6_ n7_ n8_ n9_
    have hHeld := trivial
    obtain ⟨Ao16, co16, eo16⟩ := Kd.R_slice HO127.out
    (first | subst eo16 | (injection eo16 with f1_ f2_ f3_; have f4_ := f1_.symm; have f5_ := f3_.symm; clear f1_ f2_ f3_; subst f4_; subst f5_))
    obtain ⟨Ao17, co17, eo17⟩ := Kd.N_slice HO124.out
    (first | subst eo17 | (injection eo17 with f1_ f2_ f3_; have f4_ := f1_.symm; have f5_ := f3_.symm; clear f1_ f2_ f3_; subst f4_; subst f5_))
    refine norm_ (a' := ?_) ?_ ?_
    rotate_left
    ·
     simp only [putAll, Act.put, List.setIfInBounds_toArray, List.set_cons_zero, List.set_cons_succ]
     rfl
    refine one_ (i := 8) (N := none) #[true, true, true, true, true, true, true, true, true] rfl rfl (one_of HT_.out (by kernel_rfl)) (by decide) (fun K hK => ?_)
    have hs18 : w15.cell? ⟨gb128, 0, none⟩ = some (.slice none 0 0) := (blk_cell BK128.out 0).trans rfl
    have hfs18 := blk_frozen BK128.out 0
    have hns18_0 := NB121_128.out
    have hms18_0 := NB128_121.out
    have hs19 : w15.cell? ⟨gb128, 1, none⟩ = some (.slice none 0 0) := (blk_cell BK128.out 1).trans rfl
    have hfs19 := blk_frozen BK128.out 1
    have hns19_0 := NB121_128.out
    have hms19_0 := NB128_121.out
    have hs20 : w15.cell? ⟨gb128, 2, none⟩ = some (.slice none 0 0) := (blk_cell BK128.out 2).trans rfl
    have hfs20 := blk_frozen BK128.out 2
    have hns20_0 := NB121_128.out
    have hms20_0 := NB128_121.out
    refine skip_ (w1 := ?_) (by rfl) rfl ?_ ?_
    rotate_left
    ·
     go_simp
     rfl
    refine hK.out _ _ trivial (fun hHeld => ?_)
    clear hK K
    refine done_ (done_of HT_.out (by kernel_rfl)) ?_
    go_wp2_with (first | ((with_reducible refine gate_callee (f := 72) rfl ?_); refine goesL_ (some 14) rfl rfl Try.func72 (by kernel_rfl) rfl #[.slice A0 l0.length c0] rfl p2_16 ?_; (with_reducible refine (dom_Order.calls _ _ l0 t129 _ ?side1 ?side2 A5.out).mono ?_); (case side1 => refine (Kd.V_reads' (e := 27) (base := w.heap.size) (ok := fun k_ => ((P0_ k_ ∨ w.heap.size ≤ k_) ∧ (some k_ ≠ (.slice Ao17 y122.length co17 : Value).ownBlock ∧ (some k_ ≠ (.slice Ao16 y125.length co16 : Value).ownBlock ∧ (k_ ≠ gb121 ∧ k_ ≠ gb128))))) (n := l0.length) (c := c0) ?_).2.2; exact p2_9); (case side2 => exact (Kd.V_reads' HO0.out).2.1); rintro e w21 ⟨v130, rfl, ho0, hb⟩; refine ⟨_, rfl, ?_⟩; have n0_ := Aside0.mk (Kd.V_elder' p2_9 (Kd.R_base ho0) hb); have n1_ := Aside0.mk (Kd.N_elder' (by (with_reducible repeat (first | apply Kd.N_alloc | apply Kd.N_drewN | apply Kd.N_drew)); exact (Kd.N_mono (Kd.N_far (p := ⟨gb128, 2, none⟩) (Kd.N_far (p := ⟨gb128, 1, none⟩) (Kd.N_far (p := ⟨gb128, 0, none⟩) (Kd.N_mono HO124.out (fun k_ hk => (⟨hk, hk.2.2.2⟩ : _ ∧ k_ ≠ gb128))) (fun _ hk => hk.2) (.slice Ao17 y122.length co17)) (fun _ hk => hk.2) (.slice none 0 0)) (fun _ hk => hk.2) (.slice Ao16 y125.length co16)) (fun _ h_ => h_.1))) (Kd.R_base ho0) hb); have n2_ := Aside0.mk (Kd.R_below (by (with_reducible repeat (first | apply Kd.R_alloc | apply Kd.R_drewN | apply Kd.R_drew)); exact (Kd.R_mono (Kd.R_far (p := ⟨gb128, 2, none⟩) (Kd.R_far (p := ⟨gb128, 1, none⟩) (Kd.R_far (p := ⟨gb128, 0, none⟩) (Kd.R_types HO127.out BK128.out (by decide)) (fun _ hk => hk.2) (.slice Ao17 y122.length co17)) (fun _ hk => hk.2) (.slice none 0 0)) (fun _ hk => hk.2) (.slice Ao16 y125.length co16)) (fun _ h_ => h_.1))) hb); have n3_ := Aside0.mk (Kd.R_lower (Kd.R_newM (M := fun k_ => (w.heap.size ≤ k_)) ho0 (below_size p2_0) (fun k_ h_ => h_)) (below_size p2_0)); have n4_ := Aside0.mk (blk_below (g := gb121) (o := .cells #[.slice none 0 0, .slice none 0 0, .slice none 0 0] 74 (0, 0)) (by (with_reducible repeat (first | refine blk_drewN ?_ _ | refine blk_drew ?_ | refine blk_alloc ?_ _)); refine blk_far ?_ NB121_128.out _; (with_reducible repeat (first | refine blk_drewN ?_ _ | refine blk_drew ?_ | refine blk_alloc ?_ _)); refine blk_far ?_ NB121_128.out _; (with_reducible repeat (first | refine blk_drewN ?_ _ | refine blk_drew ?_ | refine blk_alloc ?_ _)); refine blk_far ?_ NB121_128.out _; (with_reducible repeat (first | refine blk_drewN ?_ _ | refine blk_drew ?_ | refine blk_alloc ?_ _)); exact BK121.out) hb); have n5_ := Aside0.mk (blk_below (g := gb128) (o := .cells #[.slice Ao17 y122.length co17, .slice none 0 0, .slice Ao16 y125.length co16] 74 (0, 0)) (by (with_reducible repeat (first | refine blk_drewN ?_ _ | refine blk_drew ?_ | refine blk_alloc ?_ _)); refine blk_put (cs := #[.slice Ao17 y122.length co17, .slice none 0 0, .slice none 0 0]) ?_ 2 _ rfl; (with_reducible repeat (first | refine blk_drewN ?_ _ | refine blk_drew ?_ | refine blk_alloc ?_ _)); refine blk_put (cs := #[.slice Ao17 y122.length co17, .slice none 0 0, .slice none 0 0]) ?_ 1 _ rfl; (with_reducible repeat (first | refine blk_drewN ?_ _ | refine blk_drew ?_ | refine blk_alloc ?_ _)); refine blk_put (cs := #[.slice none 0 0, .slice none 0 0, .slice none 0 0]) ?_ 0 _ rfl; (with_reducible repeat (first | refine blk_drewN ?_ _ | refine blk_drew ?_ | refine blk_alloc ?_ _)); exact BK128.out) hb); have n6_ := Aside0.mk (below_step p2_0 hb); clear HO0; clear HO124; clear HO127; clear BK121; clear BK128; clear HB; have HO0 := n0_; have HO124 := n1_; have HO127 := n2_; have HO131 := n3_; have BK121 := n4_; have BK128 := n5_; have HB := n6_; clear n0_ n1_ n2_ n3_ n4_ n5_ n6_; (try clear hb); (try clear hb2); (try clear hk); (try clear hi); (try clear ho0); obtain ⟨Ao22, co22, eo22⟩ := Kd.R_slice HO131.out; subst eo22))
    go_loopg [16] k (fun kq v16 w' => ∃ (x0_1 : List (List Int)) (x16_1 : Int) (x129000_1 : List (List Int)) (x129002_1 : List Bool) (u129000 : Value) (u129002 : Value), v16 = .int .i64 x16_1 ∧ Aside0 (inter_know.l0 kq x0_1 t129 (t129.length : Int) x16_1 x129000_1 x129002_1 = some (r1, r2, r3)) ∧ Aside0 (kq ≤ k) ∧ Aside0 (Kd.V (Kd.slice 3 (Kd.int .i64)) 27 w' w.heap.size (fun k_ => (P0_ k_ ∨ w.heap.size ≤ k_) ∧ some k_ ≠ ((.slice Ao22 t129.length co22) : Value).ownBlock ∧ some k_ ≠ (u129000 : Value).ownBlock ∧ some k_ ≠ (u129002 : Value).ownBlock ∧ k_ ≠ gb121 ∧ k_ ≠ gb128) (.slice A0 l0.length c0) x0_1) ∧ Aside0 (Kd.R (Kd.int .i64) 3 w' w.heap.size (fun k_ => (w.heap.size ≤ k_)) (.slice Ao22 t129.length co22) t129) ∧ Aside0 (Kd.N (Kd.slice 3 (Kd.int .i64)) 27 w' w.heap.size (fun k_ => (P0_ k_ ∨ w.heap.size ≤ k_) ∧ some k_ ≠ ((.slice Ao22 t129.length co22) : Value).ownBlock ∧ some k_ ≠ (u129002 : Value).ownBlock ∧ k_ ≠ gb121 ∧ k_ ≠ gb128) u129000 x129000_1) ∧ Aside0 (Kd.R Kd.bool 4 w' w.heap.size (fun k_ => (w.heap.size ≤ k_)) u129002 x129002_1) ∧ Aside0 (w'.heap[gb121]? = some (.cells #[(.slice none 0 0), (.slice none 0 0), (.slice none 0 0)] 74 (0, 0))) ∧ Aside0 (w'.heap[gb128]? = some (.cells #[u129000, (.slice none 0 0), u129002] 74 (0, 0))) ∧ Aside0 (Below w.heap.size w w'))
    case atStart => exact ⟨(l0), (0), (y122), (y125), (.slice Ao17 y122.length co17), (.slice Ao16 y125.length co16), (by first | rfl | (simp; done) | (simp [*]; done)), H', ⟨Nat.le_refl _⟩, ⟨by (with_reducible repeat (first | apply Kd.V_alloc | apply Kd.V_drewN | apply Kd.V_drew)); exact Kd.V_mono HO0.out (fun _ hk => ⟨hk.1.1, ⟨hk.2, ⟨hk.1.2.1, ⟨hk.1.2.2.1, ⟨hk.1.2.2.2.1, hk.1.2.2.2.2⟩⟩⟩⟩⟩)⟩, ⟨by (with_reducible repeat (first | apply Kd.R_alloc | apply Kd.R_drewN | apply Kd.R_drew)); exact Kd.R_mono HO131.out (fun _ hk => hk.1)⟩, ⟨by (with_reducible repeat (first | apply Kd.N_alloc | apply Kd.N_drewN | apply Kd.N_drew)); exact Kd.N_mono HO124.out (fun _ hk => ⟨hk.1.1, ⟨hk.2, ⟨hk.1.2.1, ⟨hk.1.2.2.1, hk.1.2.2.2⟩⟩⟩⟩)⟩, ⟨by (with_reducible repeat (first | apply Kd.R_alloc | apply Kd.R_drewN | apply Kd.R_drew)); exact HO127.out⟩, ⟨by (with_reducible repeat (first | refine blk_drewN ?_ _ | refine blk_drew ?_ | refine blk_alloc ?_ _)); exact BK121.out⟩, ⟨by (with_reducible repeat (first | refine blk_drewN ?_ _ | refine blk_drew ?_ | refine blk_alloc ?_ _)); exact BK128.out⟩, ⟨by repeat (first | (with_reducible first | exact HB.out | apply below_alloc | apply pw_below_drewN | apply below_drew1 | refine below_set ?_ GE121.out | refine below_set ?_ GE128.out) | exact HB.out)⟩⟩
    case round =>
     clear H'
     obtain ⟨x0_1, x16_1, x129000_1, x129002_1, u129000, u129002, rfl, HA, HK1, HO_0, HO_14, HO_129000, HO_129002, BK121, BK128, HB⟩ := hrel
     have hl0_1 := (Kd.V_reads' HO_0.out).1
     rw [hl0_1] at HO_0
     (try simp only [hl0_1])
     (try simp only [hl0_1] at BK121)
     (try simp only [hl0_1] at BK128)
     (try simp only [hl0_1] at HO_14)
     (try simp only [hl0_1] at HO_129000)
     (try simp only [hl0_1] at HO_129002)
     cases gk with
     | zero => exact absurd HA.out (by simp [inter_know.l0])
     | succ k1 =>
      have H := HA.out
      clear HA
      simp only [inter_know.l0] at H
      by_cases c23 : x16_1 < (t129.length : Int)
      ·
       rw [if_pos c23] at H
       have c23b0 : decide (x16_1 < (t129.length : Int)) = true := decide_eq_true c23
       clear c23
       by_cases c24 : 0 ≤ x16_1
       ·
        rw [if_pos c24] at H
        have c24b0 : decide (0 ≤ x16_1) = true := decide_eq_true c24
        clear c24
        by_cases c25 : x16_1 < (t129.length : Int)
        ·
         rw [if_pos c25] at H
         have c25b0 : decide (x16_1 < (t129.length : Int)) = true := decide_eq_true c25
         clear c25
         by_cases c26 : 0 ≤ (rd t129 x16_1)
         ·
          rw [if_pos c26] at H
          have c26b0 : decide (0 ≤ (rd t129 x16_1)) = true := decide_eq_true c26
          clear c26
          by_cases c27 : (rd t129 x16_1) < (x0_1.length : Int)
          ·
           rw [if_pos c27] at H
           have c27b0 : decide ((rd t129 x16_1) < (x0_1.length : Int)) = true := decide_eq_true c27
           clear c27
           by_cases c28 : (rd t129 x16_1) < (x129000_1.length : Int)
           ·
            rw [if_pos c28] at H
            have c28b0 : decide ((rd t129 x16_1) < (x129000_1.length : Int)) = true := decide_eq_true c28
            clear c28
            obtain ⟨y134, hy134⟩ : ∃ y_ : List (List Int), y_ = (x129000_1.set ((rd t129 x16_1) : Int).toNat (rd_L1 x0_1 (rd t129 x16_1))) := ⟨_, rfl⟩
            replace H : (if (rd t129 x16_1) < (x129002_1.length : Int) then (inter_know.l0 k1 x0_1 t129 (t129.length : Int) (wrap64 (x16_1 + 1)) y134 (x129002_1.set ((rd t129 x16_1) : Int).toNat true)) else (none)) = some (r1, r2, r3) := by first | (rw [hy134]; with_reducible exact H) | (have H2_ := (Option.bind_some _ _).symm.trans H; rw [hy134]; with_reducible exact H2_) | (have H2_ := (Option.bind_some _ _).symm.trans H; with_reducible exact H2_) | with_reducible exact H | (rw [hy134]; exact H) | exact H
            have Ny134 := Aside0.mk hy134
            clear hy134
            by_cases c30 : (rd t129 x16_1) < (x129002_1.length : Int)
            ·
             rw [if_pos c30] at H
             have c30b0 : decide ((rd t129 x16_1) < (x129002_1.length : Int)) = true := decide_eq_true c30
             clear c30
             obtain ⟨y135, hy135⟩ : ∃ y_ : List Bool, y_ = (x129002_1.set ((rd t129 x16_1) : Int).toNat true) := ⟨_, rfl⟩
             replace H : (inter_know.l0 k1 x0_1 t129 (t129.length : Int) (wrap64 (x16_1 + 1)) y134 y135) = some (r1, r2, r3) := by first | (rw [hy135]; with_reducible exact H) | (have H2_ := (Option.bind_some _ _).symm.trans H; rw [hy135]; with_reducible exact H2_) | (have H2_ := (Option.bind_some _ _).symm.trans H; with_reducible exact H2_) | with_reducible exact H | (rw [hy135]; exact H) | exact H
             have Ny135 := Aside0.mk hy135
             clear hy135
             have H' := Aside0.mk H
             clear H
             have p132 : 0 ≤ (x16_1 : Int) := of_decide_eq_true p2_5
             have q132 : x16_1 < (t129.length : Int) := of_decide_eq_true p2_5
             obtain ⟨ad132, e132, hx132_0⟩ := Kd.at_int (Kd.R_reads' HO_14.out).2.2 x16_1 p132 q132
             cases e132
             replace p132 := eq_true p132
             replace q132 := eq_true q132
             try go_wp2
             have n0_ := Aside0.mk (Kd.V_drew HO_0.out)
             have n1_ := Aside0.mk (Kd.R_drew HO_14.out)
             have n2_ := Aside0.mk (Kd.N_drew HO_129000.out)
             have n3_ := Aside0.mk (Kd.R_drew HO_129002.out)
             have n4_ := Aside0.mk (blk_drew BK121.out)
             have n5_ := Aside0.mk (blk_drew BK128.out)
             have n6_ := Aside0.mk (below_drew1 HB.out)
             clear HO_0
             clear HO_14
             clear HO_129000
             clear HO_129002
             clear BK121
             clear BK128
             clear HB
             have HO_0 := n0_
             have HO_14 := n1_
             have HO_129000 := n2_
             have HO_129002 := n3_
             have BK121 := n4_
             have BK128 := n5_
             have HB := n6_
             clear n0_ n1_ n2_ n3_ n4_ n5_ n6_
             have p133 : 0 ≤ ((rd t129 x16_1) : Int) := of_decide_eq_true p2_5
             have q133 : (rd t129 x16_1) < (x0_1.length : Int) := of_decide_eq_true p2_5
             obtain ⟨ad133, A133_0, c133_0, e133, hx133_0, hl133_0, hi133_0⟩ := at_L1 (Kd.V_reads' HO_0.out).2.2 (rd t129 x16_1) p133 q133
             cases e133
             obtain ⟨ce133, hce133, hMe133, hcc133⟩ := Kd.V_get HO_0.out [] (rd t129 x16_1) p133 (by first | exact q133 | exact of_decide_eq_true p2_5 | (have e_ := (Kd.V_reads' HO_0.out).1; omega))
             obtain ⟨ua133_0, uc133_0, rfl, ul133_0, ge133_0⟩ := Kd.FK_slice_open hMe133
             have hv133_0 := hcc133 0 _ rfl
             rw [Nat.add_zero, show ((Kd.slice 3 (Kd.int .i64))).sz = 1 from rfl, Nat.mul_one] at hv133_0
             replace hv133_0 := Option.some.inj (hv133_0.symm.trans hx133_0)
             injection hv133_0 with hva_ hvn_ hvc_
             rw [hva_] at ge133_0
             rw [hvc_] at ul133_0
             have HL133_0 := Aside0.mk (show Kd.V (Kd.int .i64) 3 _ w.heap.size _ _ (rd_L1 x0_1 (rd t129 x16_1)) from Kd.V_mk ul133_0 ge133_0)
             clear hva_ hvn_ hvc_ ge133_0 ul133_0
             clear hcc133 hce133
             have HR133_0 := Aside0.mk hi133_0
             have HC133_0 := Aside0.mk hl133_0
             clear hi133_0 hl133_0
             replace p133 := eq_true p133
             replace q133 := eq_true q133
             have p29 : 0 ≤ ((rd t129 x16_1) : Int) := of_decide_eq_true p2_5
             have q29 : ((rd t129 x16_1) : Int) < ((x129000_1.length : Int) : Int) := of_decide_eq_true p2_5
             obtain ⟨go29, co29, eo29, gb29, gl29, cl29, HG29⟩ := Kd.N_form HO_129000.out (by omega)
             (first | cases eo29 | (injection eo29 with ea_ en_ ec_; (first | subst ea_ | (injection ea_ with ea_; subst ea_)); subst ec_; clear en_))
             have GB29 := Aside0.mk gb29
             have GG29 := Aside0.mk HG29
             clear gb29 gl29 HG29
             obtain ⟨ce29, hcl29, hM29, hcc29, hfr29⟩ := Kd.N_elem HO_129000.out [] ((rd t129 x16_1) : Int) p29 q29
             obtain ⟨ua29_0, uc29_0, rfl, ul29_0, ge29_0⟩ := Kd.FK_slice_open hM29
             have hx29_0 := hcc29 0 _ rfl
             have hf29_0 := hfr29 0
             (try simp only [show ((Kd.slice 3 (Kd.int .i64))).sz = 1 from rfl, Nat.mul_one, Nat.add_zero] at hx29_0)
             (try simp only [show ((Kd.slice 3 (Kd.int .i64))).sz = 1 from rfl, Nat.mul_one, Nat.add_zero] at hf29_0)
             clear hcl29 hcc29 hfr29 hM29
             replace p29 := eq_true p29
             replace q29 := eq_true q29
             have HX33 := Aside0.mk (show Kd.N (Kd.slice 3 (Kd.int .i64)) 27 _ w.heap.size (fun k_ => (P0_ k_ ∨ w.heap.size ≤ k_) ∧ some k_ ≠ (.slice (some ad132) t129.length co22 : Value).ownBlock ∧ some k_ ≠ (u129002 : Value).ownBlock ∧ k_ ≠ gb121 ∧ k_ ≠ gb128) (.slice (some ⟨go29, 0, none⟩) x129000_1.length co29) x129000_1 from (Kd.N_mono (HO_129000.out) (fun k_ hk => ⟨hk.1, ⟨hk.2.1, ⟨hk.2.2.1, ⟨hk.2.2.2.1, hk.2.2.2.2⟩⟩⟩⟩)))
             obtain ⟨ce33, hcl33, hM33, hcc33, hfr33⟩ := Kd.N_elem HX33.out [] ((rd t129 x16_1) : Int) (of_decide_eq_true p2_5) (by have h_ : ((rd t129 x16_1) : Int) < ((x129000_1.length : Int) : Int) := of_decide_eq_true p2_5; first | exact h_ | (have e_ := (Kd.N_reads' HO_129000.out).1; omega) | simpa using h_)
             obtain ⟨ua33_0, uc33_0, rfl, ul33_0, ge33_0⟩ := Kd.FK_slice_open hM33
             have HP33 := (Kd.N_seg HX33.out ((rd t129 x16_1) : Int) (of_decide_eq_true p2_5) (by have h_ : ((rd t129 x16_1) : Int) < ((x129000_1.length : Int) : Int) := of_decide_eq_true p2_5; first | exact h_ | (have e_ := (Kd.N_reads' HO_129000.out).1; omega) | simpa using h_) (seg := [.slice A133_0 (rd_L1 x0_1 (rd t129 x16_1)).length c133_0]) (j := 0) hcl33 hcc33 (show 1 ≤ 1 from by decide) (x' := rd_L1 x0_1 (rd t129 x16_1)) (Kd.FK_slice_mk (Kd.V_reads' (Kd.V_mono (ok' := (fun k_ => ((fun k_ => (P0_ k_ ∨ w.heap.size ≤ k_) ∧ some k_ ≠ (.slice (some ad132) t129.length co22 : Value).ownBlock ∧ some k_ ≠ (u129002 : Value).ownBlock ∧ k_ ≠ gb121 ∧ k_ ≠ gb128)) k_ ∧ k_ ≠ go29)) (HL133_0.out) (fun k_ hk => ⟨⟨hk.1, ⟨hk.2.1, ⟨hk.2.2.2.1, ⟨hk.2.2.2.2.1, hk.2.2.2.2.2⟩⟩⟩⟩, fun e_ => (hk.2.2.1) (by rw [e_]; rfl)⟩))).2.1 (Kd.V_F (Kd.V_mono (ok' := (fun k_ => ((fun k_ => (P0_ k_ ∨ w.heap.size ≤ k_) ∧ some k_ ≠ (.slice (some ad132) t129.length co22 : Value).ownBlock ∧ some k_ ≠ (u129002 : Value).ownBlock ∧ k_ ≠ gb121 ∧ k_ ≠ gb128)) k_ ∧ k_ ≠ go29)) (HL133_0.out) (fun k_ hk => ⟨⟨hk.1, ⟨hk.2.1, ⟨hk.2.2.2.1, ⟨hk.2.2.2.2.1, hk.2.2.2.2.2⟩⟩⟩⟩, fun e_ => (hk.2.2.1) (by rw [e_]; rfl)⟩)))) (fun _ hk => hk)).1
             (try simp only [show ((Kd.slice 3 (Kd.int .i64))).sz = 1 from rfl, Nat.mul_one, Nat.add_zero] at HP33)
             rw [← Ny134.out] at HP33
             have HQ33 := Aside0.mk HP33
             clear hcl33 hcc33 hfr33 hM33 HP33
             refine start_ (n := 9) (S := fun w' => w'.cell? ⟨gb128, 0, none⟩ = some (.slice (some ⟨go29, 0, none⟩) x129000_1.length co29) ∧ w'.cell? ⟨gb128, 1, none⟩ = some (.slice none 0 0) ∧ w'.cell? ⟨gb128, 2, none⟩ = some (u129002) ∧ w'.cell? (ad133.add ((rd t129 x16_1)).toNat) = some (.slice A133_0 (rd_L1 x0_1 (rd t129 x16_1)).length c133_0)) (ds := [8]) #[false, false, false, false, false, false, false, false, false] (by kernel_rfl) rfl rfl ⟨(blk_cell BK128.out 0).trans rfl, (blk_cell BK128.out 1).trans rfl, (blk_cell BK128.out 2).trans rfl, hx133_0⟩ (fun hHeld => ?_); refine with_tabW inter_know.tab5 inter_know.bits5 (fun HT_ HW_ => ?_)
             generalize wr.drew = w32 at HO_0 HO_14 HO_129000 HO_129002 BK121 BK128 HB GG29 HL133_0 HQ33 HR133_0 hf29_0 hx133_0 hx29_0 hHeld ⊢
             refine pure_ (i := 0) (N := some 20) (v := ?_) (a' := ?_) #[true, false, false, false, false, false, false, false, false] rfl rfl (any_of HT_.out (by kernel_rfl)) (fun _ _ _ h => h) (Or.inl ⟨by rfl, ?_⟩) ?_ ?_
             rotate_left
             ·
              intro w'
              go_simp
              with_reducible rfl
             rotate_left
             ·
              simp only [Act.put, List.setIfInBounds_toArray, List.set_cons_zero, List.set_cons_succ, i64_w, i32_w]
              rfl
             refine pure_ (i := 2) (N := some 22) (v := ?_) (a' := ?_) #[true, false, true, false, false, false, false, false, false] rfl rfl (any_of HT_.out (by kernel_rfl)) (fun _ _ _ h => h) (Or.inl ⟨by rfl, ?_⟩) ?_ ?_
             rotate_left
             ·
              intro w'
              go_simp
              with_reducible rfl
             rotate_left
             ·
              simp only [Act.put, List.setIfInBounds_toArray, List.set_cons_zero, List.set_cons_succ, i64_w, i32_w]
              rfl
             refine pure_ (i := 3) (N := some 23) (v := ?_) (a' := ?_) #[true, false, true, true, false, false, false, false, false] rfl rfl (any_of HT_.out (by kernel_rfl)) (fun _ _ _ h => h) (Or.inl ⟨by rfl, ?_⟩) ?_ ?_
             rotate_left
             ·
              intro w'
              go_simp
              with_reducible rfl
             rotate_left
             ·
              simp only [Act.put, List.setIfInBounds_toArray, List.set_cons_zero, List.set_cons_succ, i64_w, i32_w]
              rfl
             refine pure_ (i := 4) (N := some 24) (v := ?_) (a' := ?_) #[true, false, true, true, true, false, false, false, false] rfl rfl (any_of HT_.out (by kernel_rfl)) (fun _ _ _ h => h) (Or.inl ⟨by rfl, ?_⟩) ?_ ?_
             rotate_left
             ·
              intro w'
              go_simp
              with_reducible rfl
             rotate_left
             ·
              simp only [Act.put, List.setIfInBounds_toArray, List.set_cons_zero, List.set_cons_succ, i64_w, i32_w]
              rfl
             refine pure_ (i := 5) (N := some 25) (v := ?_) (a' := ?_) #[true, false, true, true, true, true, false, false, false] rfl rfl (any_of HT_.out (by kernel_rfl)) (fun _ _ _ h => h) (Or.inl ⟨by rfl, ?_⟩) ?_ ?_
             rotate_left
             ·
              intro w'
              go_simp
              with_reducible rfl
             rotate_left
             ·
              simp only [Act.put, List.setIfInBounds_toArray, List.set_cons_zero, List.set_cons_succ, i64_w, i32_w]
              rfl
             refine take_ (i := 1) (N := some 21) (v := ?_) (a' := ?_) #[true, true, true, true, true, true, false, false, false] rfl rfl (take_ofW HT_.out HW_.out (by kernel_rfl)) (fun _ _ _ h => h) (Or.inl ⟨by rfl, ?_⟩) hHeld ?_ ?_
             rotate_left
             ·
              rintro w' ⟨s0, s1, s2, s3⟩
              go_simp
              with_reducible rfl
             rotate_left
             ·
              simp only [Act.put, List.setIfInBounds_toArray, List.set_cons_zero, List.set_cons_succ, i64_w, i32_w]
              rfl
             refine take_ (i := 6) (N := some 26) (v := ?_) (a' := ?_) #[true, true, true, true, true, true, true, false, false] rfl rfl (take_ofW HT_.out HW_.out (by kernel_rfl)) (fun _ _ _ h => h) (Or.inl ⟨by rfl, ?_⟩) hHeld ?_ ?_
             rotate_left
             ·
              rintro w' ⟨s0, s1, s2, s3⟩
              go_simp
              with_reducible rfl
             rotate_left
             ·
              simp only [Act.put, List.setIfInBounds_toArray, List.set_cons_zero, List.set_cons_succ, i64_w, i32_w]
              rfl
             refine pure_ (i := 7) (N := some 27) (v := ?_) (a' := ?_) #[true, true, true, true, true, true, true, true, false] rfl rfl (any_of HT_.out (by kernel_rfl)) (fun _ _ _ h => h) (Or.inl ⟨by rfl, ?_⟩) ?_ ?_
             rotate_left
             ·
              intro w'
              go_simp
              with_reducible rfl
             rotate_left
             ·
              simp only [Act.put, List.setIfInBounds_toArray, List.set_cons_zero, List.set_cons_succ, i64_w, i32_w]
              rfl
             refine last_ (i := 8) (N := none) #[true, true, true, true, true, true, true, true, true] rfl rfl (one_of HT_.out (by kernel_rfl)) (by decide) (fun K hK => ?_)
             refine skip_ (w1 := ?_) (by rfl) rfl ?_ ?_
             rotate_left
             ·
              go_simp
              rfl
             refine hK.out _ _ ?_
             clear hK K
             refine done_ (done_of HT_.out (by kernel_rfl)) ?_
             have n0_ : Aside0 (Kd.V (Kd.slice 3 (Kd.int .i64)) 27 (w32.setCell ⟨go29, ((rd t129 x16_1) : Int).toNat, none⟩ (.slice A133_0 (rd_L1 x0_1 (rd t129 x16_1)).length c133_0)) w.heap.size (fun k_ => (P0_ k_ ∨ w.heap.size ≤ k_) ∧ some k_ ≠ (.slice (some ad132) t129.length co22 : Value).ownBlock ∧ some k_ ≠ (.slice (some ⟨go29, 0, none⟩) x129000_1.length co29 : Value).ownBlock ∧ some k_ ≠ (u129002 : Value).ownBlock ∧ k_ ≠ gb121 ∧ k_ ≠ gb128) (.slice (some ad133) x0_1.length c0) x0_1) := ⟨by (with_reducible repeat (first | apply Kd.V_alloc | apply Kd.V_drewN | apply Kd.V_drew)); exact Kd.V_mono (Kd.V_far (p := ⟨go29, ((rd t129 x16_1) : Int).toNat, none⟩) (Kd.V_mono HO_0.out (fun k_ hk => (⟨hk, fun e_ => hk.2.2.1 (by rw [e_]; rfl)⟩ : _ ∧ k_ ≠ go29))) (fun _ hk => hk.2) (.slice A133_0 (rd_L1 x0_1 (rd t129 x16_1)).length c133_0)) (fun _ hk => ⟨hk.1.1, ⟨hk.1.2.1, ⟨hk.1.2.2.1, ⟨hk.1.2.2.2.1, ⟨hk.1.2.2.2.2.1, hk.1.2.2.2.2.2⟩⟩⟩⟩⟩)⟩
             have n1_ : Aside0 (Kd.R (Kd.int .i64) 3 (w32.setCell ⟨go29, ((rd t129 x16_1) : Int).toNat, none⟩ (.slice A133_0 (rd_L1 x0_1 (rd t129 x16_1)).length c133_0)) w.heap.size (fun k_ => (w.heap.size ≤ k_)) (.slice (some ad132) t129.length co22) t129) := ⟨by (with_reducible repeat (first | apply Kd.R_alloc | apply Kd.R_drewN | apply Kd.R_drew)); exact Kd.R_mono (Kd.R_far (p := ⟨go29, ((rd t129 x16_1) : Int).toNat, none⟩) (Kd.R_types HO_14.out GG29.out (by decide)) (fun _ hk => hk.2) (.slice A133_0 (rd_L1 x0_1 (rd t129 x16_1)).length c133_0)) (fun _ hk => hk.1)⟩
             have n2_ : Aside0 (Kd.N (Kd.slice 3 (Kd.int .i64)) 27 (w32.setCell ⟨go29, ((rd t129 x16_1) : Int).toNat, none⟩ (.slice A133_0 (rd_L1 x0_1 (rd t129 x16_1)).length c133_0)) w.heap.size (fun k_ => (P0_ k_ ∨ w.heap.size ≤ k_) ∧ some k_ ≠ (.slice (some ad132) t129.length co22 : Value).ownBlock ∧ some k_ ≠ (u129002 : Value).ownBlock ∧ k_ ≠ gb121 ∧ k_ ≠ gb128) (.slice (some ⟨go29, 0, none⟩) x129000_1.length co29) y134) := ⟨by (with_reducible repeat (first | apply Kd.N_alloc | apply Kd.N_drewN | apply Kd.N_drew)); exact HQ33.out⟩
             have n3_ : Aside0 (Kd.R Kd.bool 4 (w32.setCell ⟨go29, ((rd t129 x16_1) : Int).toNat, none⟩ (.slice A133_0 (rd_L1 x0_1 (rd t129 x16_1)).length c133_0)) w.heap.size (fun k_ => (w.heap.size ≤ k_)) u129002 x129002_1) := ⟨by (with_reducible repeat (first | apply Kd.R_alloc | apply Kd.R_drewN | apply Kd.R_drew)); exact Kd.R_mono (Kd.R_far (p := ⟨go29, ((rd t129 x16_1) : Int).toNat, none⟩) (Kd.R_types HO_129002.out GG29.out (by decide)) (fun _ hk => hk.2) (.slice A133_0 (rd_L1 x0_1 (rd t129 x16_1)).length c133_0)) (fun _ hk => hk.1)⟩
             have n4_ : Aside0 (Kd.V (Kd.int .i64) 3 (w32.setCell ⟨go29, ((rd t129 x16_1) : Int).toNat, none⟩ (.slice A133_0 (rd_L1 x0_1 (rd t129 x16_1)).length c133_0)) w.heap.size (fun k_ => (P0_ k_ ∨ w.heap.size ≤ k_) ∧ some k_ ≠ (.slice (some ad132) t129.length co22 : Value).ownBlock ∧ some k_ ≠ (.slice (some ⟨go29, 0, none⟩) x129000_1.length co29 : Value).ownBlock ∧ some k_ ≠ (u129002 : Value).ownBlock ∧ k_ ≠ gb121 ∧ k_ ≠ gb128) (.slice A133_0 (rd_L1 x0_1 (rd t129 x16_1)).length c133_0) (rd_L1 x0_1 (rd t129 x16_1))) := ⟨by (with_reducible repeat (first | apply Kd.V_alloc | apply Kd.V_drewN | apply Kd.V_drew)); exact Kd.V_mono (Kd.V_far (p := ⟨go29, ((rd t129 x16_1) : Int).toNat, none⟩) (Kd.V_mono HL133_0.out (fun k_ hk => (⟨hk, fun e_ => hk.2.2.1 (by rw [e_]; rfl)⟩ : _ ∧ k_ ≠ go29))) (fun _ hk => hk.2) (.slice A133_0 (rd_L1 x0_1 (rd t129 x16_1)).length c133_0)) (fun _ hk => ⟨hk.1.1, ⟨hk.1.2.1, ⟨hk.1.2.2.1, ⟨hk.1.2.2.2.1, ⟨hk.1.2.2.2.2.1, hk.1.2.2.2.2.2⟩⟩⟩⟩⟩)⟩
             have n5_ : Aside0 ((w32.setCell ⟨go29, ((rd t129 x16_1) : Int).toNat, none⟩ (.slice A133_0 (rd_L1 x0_1 (rd t129 x16_1)).length c133_0)).heap[gb121]? = some (.cells #[.slice none 0 0, .slice none 0 0, .slice none 0 0] 74 (0, 0))) := ⟨by (with_reducible repeat (first | refine blk_drewN ?_ _ | refine blk_drew ?_ | refine blk_alloc ?_ _)); refine blk_far ?_ (by have h_ := Kd.N_away HO_129000.out (fun _ hk => hk.2.2.2.1); intro e_; exact h_ (by rw [e_]; rfl)) _; (with_reducible repeat (first | refine blk_drewN ?_ _ | refine blk_drew ?_ | refine blk_alloc ?_ _)); exact BK121.out⟩
             have n6_ : Aside0 ((w32.setCell ⟨go29, ((rd t129 x16_1) : Int).toNat, none⟩ (.slice A133_0 (rd_L1 x0_1 (rd t129 x16_1)).length c133_0)).heap[gb128]? = some (.cells #[.slice (some ⟨go29, 0, none⟩) x129000_1.length co29, .slice none 0 0, u129002] 74 (0, 0))) := ⟨by (with_reducible repeat (first | refine blk_drewN ?_ _ | refine blk_drew ?_ | refine blk_alloc ?_ _)); refine blk_far ?_ (by have h_ := Kd.N_away HO_129000.out (fun _ hk => hk.2.2.2.2); intro e_; exact h_ (by rw [e_]; rfl)) _; (with_reducible repeat (first | refine blk_drewN ?_ _ | refine blk_drew ?_ | refine blk_alloc ?_ _)); exact BK128.out⟩
             have n7_ : Aside0 (Below w.heap.size w (w32.setCell ⟨go29, ((rd t129 x16_1) : Int).toNat, none⟩ (.slice A133_0 (rd_L1 x0_1 (rd t129 x16_1)).length c133_0))) := ⟨by repeat (first | (with_reducible first | exact HB.out | apply below_alloc | apply pw_below_drewN | apply below_drew1 | refine below_set ?_ GB29.out | refine below_set ?_ GE121.out | refine below_set ?_ GE128.out) | exact HB.out)⟩
             (try clear HO_0)
             (try clear HO_14)
             (try clear HO_129000)
             (try clear HO_129002)
             (try clear HL133_0)
             (try clear BK121)
             (try clear BK128)
             (try clear HB)
             generalize (w32.setCell ⟨go29, ((rd t129 x16_1) : Int).toNat, none⟩ (.slice A133_0 (rd_L1 x0_1 (rd t129 x16_1)).length c133_0)) = w34 at n0_ n1_ n2_ n3_ n4_ n5_ n6_ n7_ ⊢
             have HO_0 := n0_
             have HO_14 := n1_
             have HO_129000 := n2_
             have HO_129002 := n3_
             have HL133_0 := n4_
             have BK121 := n5_
             have BK128 := n6_
             have HB := n7_
             clear n0_ n1_ n2_ n3_ n4_ n5_ n6_ n7_
             have hnb35 := NB128_121.out
             have hnc35 := NB121_128.out
             obtain ⟨hcz36_0, hcz36_1, hcz36_2⟩ := box3_ BK128.out
             obtain ⟨hfz36_0, hfz36_1, hfz36_2⟩ := frz3_ BK128.out
             have p31 : 0 ≤ ((rd t129 x16_1) : Int) := of_decide_eq_true p2_5
             have q31 : ((rd t129 x16_1) : Int) < ((x129002_1.length : Int) : Int) := of_decide_eq_true p2_5
             obtain ⟨go31, co31, eo31, gb31, gl31, cl31, HG31⟩ := Kd.R_form HO_129002.out (by omega)
             (first | cases eo31 | (injection eo31 with ea_ en_ ec_; (first | subst ea_ | (injection ea_ with ea_; subst ea_)); subst ec_; clear en_))
             have GB31 := Aside0.mk gb31
             have GG31 := Aside0.mk HG31
             clear gb31 gl31 HG31
             obtain ⟨hx31_0, hf31_0⟩ := Kd.R_celln false HO_129002.out ((rd t129 x16_1) : Int) p31 q31
             replace p31 := eq_true p31
             replace q31 := eq_true q31
             obtain ⟨hy37_, hz37_⟩ := Kd.R_celln false HO_129002.out ((rd t129 x16_1) : Int) (of_decide_eq_true p2_5) (of_decide_eq_true p2_5)
             have HP37 := Kd.R_putg HO_129002.out ((rd t129 x16_1) : Int) true
             try go_wp2_with (first | ((with_reducible refine gate_store (t := 4) (p := 31) rfl ?_); refine store_event (t := 4) (p := 31) (v := ?vo_w38) (w1 := (w34.setCell ⟨go31, ((rd t129 x16_1) : Int).toNat, none⟩ (.bool true))) ?hg ?ho ?hn ?hr ?_; (case ho => rfl); (case hg => rfl); (case hn => rfl); (case hr => first | (go_simp; done) | (go_simp; rfl)); intro w38 hw; have hg : w34.grownBy w38 (some go31) := (by rw [hw]; exact HP37.2); have hp_ : Kd.R Kd.bool 4 w38 w.heap.size (fun k_ => (w.heap.size ≤ k_)) (.slice (some ⟨go31, 0, none⟩) x129002_1.length co31) y135 := (by rw [hw, Ny135.out]; exact HP37.1); clear HP37; have n0_ := Aside0.mk (Kd.V_afterv (v := (.slice (some ⟨go31, 0, none⟩) x129002_1.length co31)) (v1 := (.slice (some ⟨go31, 0, none⟩) x129002_1.length co31)) (ok := (fun k_ => (P0_ k_ ∨ w.heap.size ≤ k_) ∧ some k_ ≠ (.slice (some ad132) t129.length co22 : Value).ownBlock ∧ some k_ ≠ (.slice (some ⟨go29, 0, none⟩) x129000_1.length co29 : Value).ownBlock ∧ k_ ≠ gb121 ∧ k_ ≠ gb128)) (by (with_reducible repeat (first | apply Kd.V_alloc | apply Kd.V_drewN | apply Kd.V_drew)); exact Kd.V_mono HO_0.out (fun _ hk => ⟨⟨hk.1, ⟨hk.2.1, ⟨hk.2.2.1, ⟨hk.2.2.2.2.1, hk.2.2.2.2.2⟩⟩⟩⟩, hk.2.2.2.1⟩)) hg (.inl rfl)); have n1_ := Aside0.mk (Kd.R_over' (v := (.slice (some ⟨go31, 0, none⟩) x129002_1.length co31)) p2_13 (Kd.R_typed HO_129002.out) (by decide) hg); have n2_ := Aside0.mk (Kd.N_afterv (v := (.slice (some ⟨go31, 0, none⟩) x129002_1.length co31)) (v1 := (.slice (some ⟨go31, 0, none⟩) x129002_1.length co31)) (ok := (fun k_ => (P0_ k_ ∨ w.heap.size ≤ k_) ∧ some k_ ≠ (.slice (some ad132) t129.length co22 : Value).ownBlock ∧ k_ ≠ gb121 ∧ k_ ≠ gb128)) (by (with_reducible repeat (first | apply Kd.N_alloc | apply Kd.N_drewN | apply Kd.N_drew)); exact Kd.N_mono HO_129000.out (fun _ hk => ⟨⟨hk.1, ⟨hk.2.1, ⟨hk.2.2.2.1, hk.2.2.2.2⟩⟩⟩, hk.2.2.1⟩)) hg (.inl rfl)); have n3_ := Aside0.mk (hp_); have n4_ := Aside0.mk (blk_grown (g := gb121) (o := .cells #[.slice none 0 0, .slice none 0 0, .slice none 0 0] 74 (0, 0)) p2_1 hg (Kd.R_ne HO_129002.out BK121.out (by decide))); have n5_ := Aside0.mk (blk_grown (g := gb128) (o := .cells #[.slice (some ⟨go29, 0, none⟩) x129000_1.length co29, .slice none 0 0, .slice (some ⟨go31, 0, none⟩) x129002_1.length co31] 74 (0, 0)) p2_4 hg (Kd.R_ne HO_129002.out BK128.out (by decide))); have n6_ := Aside0.mk (Kd.V_afterv (v := (.slice (some ⟨go31, 0, none⟩) x129002_1.length co31)) (v1 := (.slice (some ⟨go31, 0, none⟩) x129002_1.length co31)) (ok := (fun k_ => (P0_ k_ ∨ w.heap.size ≤ k_) ∧ some k_ ≠ (.slice (some ad132) t129.length co22 : Value).ownBlock ∧ some k_ ≠ (.slice (some ⟨go29, 0, none⟩) x129000_1.length co29 : Value).ownBlock ∧ k_ ≠ gb121 ∧ k_ ≠ gb128)) (by (with_reducible repeat (first | apply Kd.V_alloc | apply Kd.V_drewN | apply Kd.V_drew)); exact Kd.V_mono HL133_0.out (fun _ hk => ⟨⟨hk.1, ⟨hk.2.1, ⟨hk.2.2.1, ⟨hk.2.2.2.2.1, hk.2.2.2.2.2⟩⟩⟩⟩, hk.2.2.2.1⟩)) hg (.inl rfl)); have n7_ := Aside0.mk ((by rw [hw]; exact below_set (HB.out) GB31.out : Below w.heap.size w w38)); clear HO_0; clear HO_14; clear HO_129000; clear HO_129002; clear BK121; clear BK128; clear HL133_0; clear HB; have HO_0 := n0_; have HO_14 := n1_; have HO_129000 := n2_; have HO_129002 := n3_; have BK121 := n4_; have BK128 := n5_; have HL133_0 := n6_; have HB := n7_; clear n0_ n1_ n2_ n3_ n4_ n5_ n6_ n7_; clear hg hw hp_))
             (try simp only [← hl0_1])
             go_roundg k1
             case measure => have := HK1.out; omega
             case rel => exact ⟨(x0_1), (wrap64 (x16_1 + 1)), (y134), (y135), (.slice (some ⟨go29, 0, none⟩) x129000_1.length co29), (.slice (some ⟨go31, 0, none⟩) x129002_1.length co31), (by first | rfl | (simp; done) | (simp [*]; done)), H', ⟨by have := HK1.out; omega⟩, ⟨by (try simp only [hl0_1]); (with_reducible repeat (first | apply Kd.V_alloc | apply Kd.V_drewN | apply Kd.V_drew)); exact Kd.V_mono HO_0.out (fun _ hk => ⟨hk.1.1, ⟨hk.1.2.1, ⟨hk.1.2.2.1, ⟨hk.2, ⟨hk.1.2.2.2.1, hk.1.2.2.2.2⟩⟩⟩⟩⟩)⟩, ⟨by (try simp only [hl0_1]); (with_reducible repeat (first | apply Kd.R_alloc | apply Kd.R_drewN | apply Kd.R_drew)); exact HO_14.out⟩, ⟨by (try simp only [hl0_1]); (with_reducible repeat (first | apply Kd.N_alloc | apply Kd.N_drewN | apply Kd.N_drew)); exact Kd.N_mono HO_129000.out (fun _ hk => ⟨hk.1.1, ⟨hk.1.2.1, ⟨hk.2, ⟨hk.1.2.2.1, hk.1.2.2.2⟩⟩⟩⟩)⟩, ⟨by (try simp only [hl0_1]); (with_reducible repeat (first | apply Kd.R_alloc | apply Kd.R_drewN | apply Kd.R_drew)); exact HO_129002.out⟩, ⟨by (try simp only [hl0_1]); (with_reducible repeat (first | refine blk_drewN ?_ _ | refine blk_drew ?_ | refine blk_alloc ?_ _)); exact BK121.out⟩, ⟨by (try simp only [hl0_1]); (with_reducible repeat (first | refine blk_drewN ?_ _ | refine blk_drew ?_ | refine blk_alloc ?_ _)); exact BK128.out⟩, ⟨by repeat (first | (with_reducible first | exact HB.out | apply below_alloc | apply pw_below_drewN | apply below_drew1 | refine below_set ?_ GE121.out | refine below_set ?_ GE128.out) | exact HB.out)⟩⟩
            ·
             rw [if_neg c30] at H
             exact absurd H (by simp)
           ·
            rw [if_neg c28] at H
            exact absurd H (by simp)
          ·
           rw [if_neg c27] at H
           exact absurd H (by simp)
         ·
          rw [if_neg c26] at H
          exact absurd H (by simp)
        ·
         rw [if_neg c25] at H
         exact absurd H (by simp)
       ·
        rw [if_neg c24] at H
        exact absurd H (by simp)
      ·
       rw [if_neg c23] at H
       have c23b0 : decide (x16_1 < (t129.length : Int)) = false := decide_eq_false c23
       clear c23
       replace H := Option.bind_eq_some_iff.mp H
       obtain ⟨t136, A390, H⟩ := H
       replace H : (some (x129000_1, t136, x129002_1)) = some (r1, r2, r3) := H
       have A39 := Aside0.mk A390
       clear A390
       simp only [Option.some.injEq, Prod.mk.injEq] at H
       obtain ⟨rfl, rfl, rfl⟩ := H
       have hnb40 := NB128_121.out
       have hnc40 := NB121_128.out
       obtain ⟨hcz41_0, hcz41_1, hcz41_2⟩ := box3_ BK128.out
       obtain ⟨hfz41_0, hfz41_1, hfz41_2⟩ := frz3_ BK128.out
       obtain ⟨Ao42, co42, eo42⟩ := Kd.N_slice HO_129000.out
       subst eo42
       go_wp2_with (first | ((with_reducible refine gate_callee (f := 28) rfl ?_); refine goesL_ (some 35) rfl rfl Try.func28 (by kernel_rfl) rfl #[.slice Ao42 x129000_1.length co42] rfl p2_16 ?_; (with_reducible refine (flow_Preds.calls k1 _ _ x129000_1 t136 _ ?side1 ?side2 A39.out).mono ?_); (case side1 => repeat (first | exact (Kd.N_reads' HO_129000.out).2.2 | (with_reducible refine Kd.C_alloc ?_ _) | (with_reducible refine Kd.C_drewN ?_ _) | (with_reducible refine Kd.C_drew ?_))); (case side2 => exact (Kd.N_reads' HO_129000.out).2.1); rintro e w43 ⟨v137, rfl, ho0, hb⟩; refine ⟨_, rfl, ?_⟩; have n0_ := Aside0.mk (Kd.V_elder' (by (with_reducible repeat (first | apply Kd.V_alloc | apply Kd.V_drewN | apply Kd.V_drew)); exact HO_0.out) (Kd.N_base (Kd.S_N ho0)) hb); have n1_ := Aside0.mk (Kd.R_below p2_13 hb); have n2_ := Aside0.mk (Kd.N_elder' (by (with_reducible repeat (first | apply Kd.N_alloc | apply Kd.N_drewN | apply Kd.N_drew)); exact HO_129000.out) (Kd.N_base (Kd.S_N ho0)) hb); have n3_ := Aside0.mk (Kd.R_below (by (with_reducible repeat (first | apply Kd.R_alloc | apply Kd.R_drewN | apply Kd.R_drew)); exact HO_129002.out) hb); have n4_ := Aside0.mk (Kd.N_lower (Kd.N_mono (ok' := fun k_ => (P0_ k_ ∨ w.heap.size ≤ k_) ∧ some k_ ≠ (.slice Ao22 t129.length co22 : Value).ownBlock ∧ some k_ ≠ (.slice Ao42 x129000_1.length co42 : Value).ownBlock ∧ some k_ ≠ (u129002 : Value).ownBlock ∧ k_ ≠ gb121 ∧ k_ ≠ gb128) (Kd.S_N (Kd.S_bound ho0)) (fun k_ hk_ => ⟨(.inr (Nat.le_trans (below_size p2_0) hk_.2.1)), (Kd.fresh' (Kd.R_lt p2_13) k_ hk_.2.1), (Kd.fresh' (Kd.N_lt (by (with_reducible repeat (first | apply Kd.N_alloc | apply Kd.N_drewN | apply Kd.N_drew)); exact HO_129000.out)) k_ hk_.2.1), (Kd.fresh' (Kd.R_lt (by (with_reducible repeat (first | apply Kd.R_alloc | apply Kd.R_drewN | apply Kd.R_drew)); exact HO_129002.out)) k_ hk_.2.1), (Kd.freshB (g := gb121) (o := .cells #[.slice none 0 0, .slice none 0 0, .slice none 0 0] 74 (0, 0)) p2_1 k_ hk_.2.1), (Kd.freshB (g := gb128) (o := .cells #[.slice Ao42 x129000_1.length co42, .slice none 0 0, u129002] 74 (0, 0)) p2_4 k_ hk_.2.1)⟩)) (below_size p2_0)); have n5_ := Aside0.mk (blk_below (g := gb121) (o := .cells #[.slice none 0 0, .slice none 0 0, .slice none 0 0] 74 (0, 0)) p2_1 hb); have n6_ := Aside0.mk (blk_below (g := gb128) (o := .cells #[.slice Ao42 x129000_1.length co42, .slice none 0 0, u129002] 74 (0, 0)) p2_4 hb); have n7_ := Aside0.mk (below_step p2_0 hb); clear HO_0; clear HO_14; clear HO_129000; clear HO_129002; clear BK121; clear BK128; clear HB; have HO_0 := n0_; have HO_14 := n1_; have HO_129000 := n2_; have HO_129002 := n3_; have HO138 := n4_; have BK121 := n5_; have BK128 := n6_; have HB := n7_; clear n0_ n1_ n2_ n3_ n4_ n5_ n6_ n7_; (try clear hb); (try clear hb2); (try clear hk); (try clear hi); (try clear ho0); obtain ⟨Ao44, co44, eo44⟩ := Kd.N_slice HO138.out; subst eo44; have hcz45_0 : w43.cell? ⟨gb128, 0, none⟩ = some (.slice Ao42 x129000_1.length co42) := (blk_cell BK128.out 0).trans rfl; have hcz45_1 : w43.cell? ⟨gb128, 1, none⟩ = some (.slice none 0 0) := (blk_cell BK128.out 1).trans rfl; have hcz45_2 : w43.cell? ⟨gb128, 2, none⟩ = some (u129002) := (blk_cell BK128.out 2).trans rfl; have hfz45_0 := blk_frozen BK128.out 0; have hfz45_1 := blk_frozen BK128.out 1; have hfz45_2 := blk_frozen BK128.out 2; have hcz46_0 : w43.cell? ⟨gb121, 0, none⟩ = some (.slice none 0 0) := (blk_cell BK121.out 0).trans rfl; have hcz46_1 : w43.cell? ⟨gb121, 1, none⟩ = some (.slice none 0 0) := (blk_cell BK121.out 1).trans rfl; have hcz46_2 : w43.cell? ⟨gb121, 2, none⟩ = some (.slice none 0 0) := (blk_cell BK121.out 2).trans rfl; have hfz46_0 := blk_frozen BK121.out 0; have hfz46_1 := blk_frozen BK121.out 1; have hfz46_2 := blk_frozen BK121.out 2; obtain ⟨Ao47, co47, eo47⟩ := Kd.R_slice HO_129002.out; subst eo47))
       refine bodyPost_ret (results_cell_row rfl _ _ gb121 74 #[.slice Ao42 x129000_1.length co42, .slice Ao44 t136.length co44, .slice Ao47 x129002_1.length co47] (0, 0) _ rfl (by (with_reducible repeat (first | refine blk_drewN ?_ _ | refine blk_drew ?_ | refine blk_alloc ?_ _)); refine blk_put (cs := #[.slice Ao42 x129000_1.length co42, .slice Ao44 t136.length co44, .slice none 0 0]) ?_ 2 _ rfl; (with_reducible repeat (first | refine blk_drewN ?_ _ | refine blk_drew ?_ | refine blk_alloc ?_ _)); refine blk_put (cs := #[.slice Ao42 x129000_1.length co42, .slice none 0 0, .slice none 0 0]) ?_ 1 _ rfl; (with_reducible repeat (first | refine blk_drewN ?_ _ | refine blk_drew ?_ | refine blk_alloc ?_ _)); refine blk_put (cs := #[.slice none 0 0, .slice none 0 0, .slice none 0 0]) ?_ 0 _ rfl; (with_reducible repeat (first | refine blk_drewN ?_ _ | refine blk_drew ?_ | refine blk_alloc ?_ _)); refine blk_far ?_ NB121_128.out _; (with_reducible repeat (first | refine blk_drewN ?_ _ | refine blk_drew ?_ | refine blk_alloc ?_ _)); exact BK121.out) Try.underlying74 rfl (by kernel_rfl)) rfl ?_
       exact ⟨_, _, _, by first | rfl | (simp [errW_none, errW_some] <;> rfl) | (simp [*, errW_none, errW_some] <;> rfl), by (with_reducible repeat (first | apply Kd.N_alloc | apply Kd.N_drewN | apply Kd.N_drew)); exact Kd.N_mono (Kd.N_far (p := ⟨gb121, 2, none⟩) (Kd.N_far (p := ⟨gb121, 1, none⟩) (Kd.N_far (p := ⟨gb121, 0, none⟩) (Kd.N_far (p := ⟨gb128, 1, none⟩) (Kd.N_mono (Kd.N_mono HO_129000.out (fun k_ hk => (⟨hk, hk.1.2.2.2.2⟩ : _ ∧ k_ ≠ gb128))) (fun k_ hk => (⟨hk, hk.1.1.2.2.2.1⟩ : _ ∧ k_ ≠ gb121))) (fun _ hk => hk.1.2) (.slice Ao44 t136.length co44)) (fun _ hk => hk.2) (.slice Ao42 x129000_1.length co42)) (fun _ hk => hk.2) (.slice Ao44 t136.length co44)) (fun _ hk => hk.2) (.slice Ao47 x129002_1.length co47)) (fun _ hk => ⟨hk.1.1.1.1, ⟨hk.1.1.2, hk.1.1.1.2.2.1⟩⟩), by (with_reducible repeat (first | apply Kd.N_alloc | apply Kd.N_drewN | apply Kd.N_drew)); exact Kd.N_mono (Kd.N_far (p := ⟨gb121, 2, none⟩) (Kd.N_far (p := ⟨gb121, 1, none⟩) (Kd.N_far (p := ⟨gb121, 0, none⟩) (Kd.N_far (p := ⟨gb128, 1, none⟩) (Kd.N_mono (Kd.N_mono HO138.out (fun k_ hk => (⟨hk, hk.2.2.2.2.2⟩ : _ ∧ k_ ≠ gb128))) (fun k_ hk => (⟨hk, hk.1.2.2.2.2.1⟩ : _ ∧ k_ ≠ gb121))) (fun _ hk => hk.1.2) (.slice Ao44 t136.length co44)) (fun _ hk => hk.2) (.slice Ao42 x129000_1.length co42)) (fun _ hk => hk.2) (.slice Ao44 t136.length co44)) (fun _ hk => hk.2) (.slice Ao47 x129002_1.length co47)) (fun _ hk => ⟨hk.1.1.1, ⟨hk.1.1.2.2.1, hk.1.1.2.2.2.1⟩⟩), by (with_reducible repeat (first | apply Kd.R_alloc | apply Kd.R_drewN | apply Kd.R_drew)); exact Kd.R_mono (Kd.R_far (p := ⟨gb121, 2, none⟩) (Kd.R_far (p := ⟨gb121, 1, none⟩) (Kd.R_far (p := ⟨gb121, 0, none⟩) (Kd.R_far (p := ⟨gb128, 1, none⟩) (Kd.R_types (Kd.R_types HO_129002.out BK128.out (by decide)) BK121.out (by decide)) (fun _ hk => hk.1.2) (.slice Ao44 t136.length co44)) (fun _ hk => hk.2) (.slice Ao42 x129000_1.length co42)) (fun _ hk => hk.2) (.slice Ao44 t136.length co44)) (fun _ hk => hk.2) (.slice Ao47 x129002_1.length co47)) (fun _ hk => hk.1.1), by repeat (first | (with_reducible first | exact HB.out | apply below_alloc | apply pw_below_drewN | apply below_drew1 | refine below_set ?_ GE121.out | refine below_set ?_ GE128.out) | exact HB.out)⟩
   ·
    rw [if_neg c4] at H
    exact absurd H (by simp)
  ·
   rw [if_neg c3] at H
   exact absurd H (by simp)
 ·
  rw [if_neg c2] at H
  exact absurd H (by simp)

end Go.Proofs.Ytfiffhcpgojkhaa.QInterParts
