-- Printed by a program of this session's over the kit's printer (wip/patch_print.py).
import Derived.Test.YtalhmelcbodjeaaQDomSetsx0
import Derived.Test.YtalhmelcbodjeaaQDomSetsx1
namespace Go.Proofs.Ytalhmelcbodjeaa.QDomSets
open Go.RowKit Go.Proofs.Ytalhmelcbodjeaa Go.Proofs.YtalhmelcbodjeaaW.PrintWords Go.Proofs.YtalhmelcbodjeaaW.PrintLast Go.Proofs.YtalhmelcbodjeaaW.PrintMore
attribute [local go_sem] setCell_drewN0 max2_int min2_int max_two min_two max_three min_three max_four min_four   -- for this text's walks alone
set_option linter.unusedVariables false
set_option linter.unusedSimpArgs false

/-! ### dom_Sets: function 22 -/
mutual
def dom_Sets.l0 : Nat → List (List Int) → List (S36) → Int → Int → Option ((List (S36)))
 | 0, _, _, _, _ => none
 | k + 1, x0, x3, x12, x13 => if x13 < x12 then ((bits_New.f (x0.length : Int)).bind fun bt136 => (if 0 ≤ x13 then (if x13 < (x3.length : Int) then (dom_Sets.l0 k x0 (x3.set (x13 : Int).toNat (⟨bt136.1, bt136.2⟩ : S36)) x12 (wrap64 (x13 + 1))) else (none)) else (none))) else ((dom_Idom.f k x0).bind fun t141 => ((dom_Order.f x0).bind fun t144 => (dom_Sets.l1 k x3 t141 t144 (t144.length : Int) 0)))
def dom_Sets.l1 : Nat → List (S36) → List Int → List Int → Int → Int → Option ((List (S36)))
 | 0, _, _, _, _, _ => none
 | k + 1, x3, x5, x26, x27, x28 => if x28 < x27 then (if 0 ≤ x28 then (if x28 < (x26.length : Int) then (if (rd x26 x28) > 0 then (if 0 ≤ (rd x26 x28) then (if (rd x26 x28) < (x5.length : Int) then (if 0 ≤ (rd x5 (rd x26 x28)) then (if (rd x5 (rd x26 x28)) < (x3.length : Int) then (if (rd x26 x28) < (x3.length : Int) then ((some (x3.set ((rd x26 x28) : Int).toNat (⟨(rd_T36 x3 (rd x5 (rd x26 x28))).f0, (rd_T36 x3 (rd x5 (rd x26 x28))).f1⟩ : S36) : List (S36))).bind fun y150 => ((bits_Set_With.f ((rd_T36 y150 (rd x26 x28)).f0) ((rd_T36 y150 (rd x26 x28)).f1) (rd x26 x28)).bind fun bt152 => (dom_Sets.l1 k (y150.set ((rd x26 x28) : Int).toNat (⟨bt152.1, bt152.2⟩ : S36)) x5 x26 x27 (wrap64 (x28 + 1))))) else (none)) else (none)) else (none)) else (none)) else (none)) else (if 0 ≤ (rd x26 x28) then (if (rd x26 x28) < (x3.length : Int) then ((bits_Set_With.f ((rd_T36 x3 (rd x26 x28)).f0) ((rd_T36 x3 (rd x26 x28)).f1) (rd x26 x28)).bind fun bt158 => (dom_Sets.l1 k (x3.set ((rd x26 x28) : Int).toNat (⟨bt158.1, bt158.2⟩ : S36)) x5 x26 x27 (wrap64 (x28 + 1)))) else (none)) else (none))) else (none)) else (none)) else (some x3)
end
def dom_Sets.f (k : Nat) (l0 : List (List Int)) : Option ((List (S36))) := if 0 ≤ (l0.length : Int) then (if ((l0.length : Int) : Int).toNat ≤ 8796093022208 then ((some (List.replicate ((l0.length : Int) : Int).toNat z36 : List (S36))).bind fun y133 => (dom_Sets.l0 k l0 y133 (y133.length : Int) 0)) else (none)) else (none)
theorem dom_Sets.mono_l : ∀ k, (∀ y0 y1 y2 y3, LeO (dom_Sets.l0 k y0 y1 y2 y3) (dom_Sets.l0 (k + 1) y0 y1 y2 y3)) ∧ (∀ y0 y1 y2 y3 y4, LeO (dom_Sets.l1 k y0 y1 y2 y3 y4) (dom_Sets.l1 (k + 1) y0 y1 y2 y3 y4))
 | 0 => ⟨fun _ _ _ _ r h => by simp [dom_Sets.l0] at h, fun _ _ _ _ _ r h => by simp [dom_Sets.l1] at h⟩
 | k + 1 => by
  obtain ⟨ih0, ih1⟩ := dom_Sets.mono_l k
  refine ⟨?_, ?_⟩
  ·
   intro y0 y1 y2 y3
   unfold dom_Sets.l0
   repeat' first
   | (with_reducible exact ih0 _ _ _ _)
   | (with_reducible exact ih1 _ _ _ _ _)
   | (with_reducible exact dom_Idom.mono _ _)
   | (with_reducible exact LeO.refl _)
   | (with_reducible exact LeO.none _)
   | (with_reducible refine LeO.ite ?_ ?_)
   | (with_reducible refine LeO.bind ?_ (fun _ => ?_))
   | exact ih0 _ _ _ _
   | exact ih1 _ _ _ _ _
   | exact dom_Idom.mono _ _
   | exact LeO.none _
   | refine LeO.ite ?_ ?_
   | refine LeO.bind ?_ (fun _ => ?_)
  ·
   intro y0 y1 y2 y3 y4
   unfold dom_Sets.l1
   repeat' first
   | (with_reducible exact ih0 _ _ _ _)
   | (with_reducible exact ih1 _ _ _ _ _)
   | (with_reducible exact dom_Idom.mono _ _)
   | (with_reducible exact LeO.refl _)
   | (with_reducible exact LeO.none _)
   | (with_reducible refine LeO.ite ?_ ?_)
   | (with_reducible refine LeO.bind ?_ (fun _ => ?_))
   | exact ih0 _ _ _ _
   | exact ih1 _ _ _ _ _
   | exact dom_Idom.mono _ _
   | exact LeO.none _
   | refine LeO.ite ?_ ?_
   | refine LeO.bind ?_ (fun _ => ?_)
theorem dom_Sets.mono : ∀ a0 k, LeO (dom_Sets.f k a0) (dom_Sets.f (k + 1) a0) := by
 intro a0 k
 obtain ⟨ih0, ih1⟩ := dom_Sets.mono_l k
 unfold dom_Sets.f
 repeat' first
   | (with_reducible exact ih0 _ _ _ _)
   | (with_reducible exact ih1 _ _ _ _ _)
   | (with_reducible exact dom_Idom.mono _ _)
   | (with_reducible exact LeO.refl _)
   | (with_reducible exact LeO.none _)
   | (with_reducible refine LeO.ite ?_ ?_)
   | (with_reducible refine LeO.bind ?_ (fun _ => ?_))
   | exact ih0 _ _ _ _
   | exact ih1 _ _ _ _ _
   | exact dom_Idom.mono _ _
   | exact LeO.none _
   | refine LeO.ite ?_ ?_
   | refine LeO.bind ?_ (fun _ => ?_)
set_option maxHeartbeats 8000000 in
set_option maxRecDepth 100000 in
theorem dom_Sets.calls (k : Nat) (A0 : Option Addr) (c0 : Nat) (l0 : List (List Int)) (r : List (S36)) (w : World) (hr0 : Kd.C (Kd.slice 3 (Kd.int .i64)) w A0 l0.length l0) (hc0 : l0.length ≤ c0) (h : dom_Sets.f k l0 = some r) :
  Calls Try.prog 22 #[.slice A0 l0.length c0] w fun e w' => ∃ v0_ : Value, e = .returned (v0_) ∧ Kd.N k36 36 w' w.heap.size (fun k_ => (w.heap.size ≤ k_)) v0_ r ∧ Below w.heap.size w w' := by
 have hu36 := Try.underlying36
 have HR0 := Aside0.mk hr0
 have HC0 := Aside0.mk hc0
 clear hr0 hc0
 have HB := Aside0.mk (Below.refl w.heap.size w)
 have H : (if 0 ≤ (l0.length : Int) then (if ((l0.length : Int) : Int).toNat ≤ 8796093022208 then ((some (List.replicate ((l0.length : Int) : Int).toNat z36 : List (S36))).bind fun y133 => (dom_Sets.l0 k l0 y133 (y133.length : Int) 0)) else (none)) else (none)) = some r := h
 clear h
 by_cases c2 : 0 ≤ (l0.length : Int)
 ·
  rw [if_pos c2] at H
  have c2b0 := eq_true c2
  have c2b1 : decide (0 ≤ (l0.length : Int)) = true := decide_eq_true c2
  clear c2
  by_cases c3 : ((l0.length : Int) : Int).toNat ≤ 8796093022208
  ·
   rw [if_pos c3] at H
   have c3b0 := eq_true c3
   have c3b1 : decide (((l0.length : Int) : Int).toNat ≤ 8796093022208) = true := decide_eq_true c3
   clear c3
   obtain ⟨y133, hy133⟩ : ∃ y_ : List (S36), y_ = (List.replicate ((l0.length : Int) : Int).toNat z36) := ⟨_, rfl⟩
   replace H : (dom_Sets.l0 k l0 y133 (y133.length : Int) 0) = some r := by first | (rw [hy133]; with_reducible exact H) | (have H2_ := (Option.bind_some _ _).symm.trans H; rw [hy133]; with_reducible exact H2_) | (have H2_ := (Option.bind_some _ _).symm.trans H; with_reducible exact H2_) | with_reducible exact H | (rw [hy133]; exact H) | exact H
   have Ny133 := Aside0.mk hy133
   clear hy133
   have H' := Aside0.mk H
   clear H
   go_enter Try.func22, Try.ntmps22
   go_wp2_with (first | ((with_reducible refine gate_dst (N := 10) rfl ?_); refine Kd.N_make k36 _ 36 rfl (N' := 10) rfl 30 _ _ rfl (l0.length : Int) rfl rfl Try.underlying30 (.agg #[(.int .i64 0), (.slice none 0 0)]) 32 info36 rfl (by decide) (by omega) z36 (ok := fun k_ => w.heap.size ≤ k_) (okp := fun _ => False) (k36_mkF _ _ z36 (Nat.le_refl _) (Kd.F_nil _ _ _)) (fun _ hk => hk.elim) (Nat.le_refl _) (of_decide_eq_true (by first | (with_reducible assumption) | assumption)) (Nat.le_trans (Nat.mul_le_mul_right _ (of_decide_eq_true (by first | (with_reducible assumption) | assumption) : (l0.length : Int).toNat ≤ 8796093022208)) (by omega)) (Below.refl _ _) (Nat.le_refl _) ?_; intro v134 w4 ho5 hb hg_ hnew_; clear hg_ hnew_; (first | rw [← Ny133.out] at ho5 | (simp only [Int.reduceToNat] at ho5; rw [← Ny133.out] at ho5)); have n0_ := Aside0.mk (Kd.N_lower (Kd.N_mono (ok' := fun k_ => (w.heap.size ≤ k_)) ho5 (fun k_ hk_ => (Nat.le_trans (below_size (by repeat (first | (with_reducible first | exact HB.out | apply below_alloc | apply pw_below_drewN | apply below_drew1) | exact HB.out))) hk_))) (below_size (by repeat (first | (with_reducible first | exact HB.out | apply below_alloc | apply pw_below_drewN | apply below_drew1) | exact HB.out)))); have n1_ := Aside0.mk (below_step (by repeat (first | (with_reducible first | exact HB.out | apply below_alloc | apply pw_below_drewN | apply below_drew1) | exact HB.out)) hb); clear HB; have HO135 := n0_; have HB := n1_; clear n0_ n1_; clear hb ho5; obtain ⟨Ao6, co6, eo6⟩ := Kd.N_slice HO135.out; subst eo6))
   go_loopg [13] k (fun kq v13 w' => ∃ (x3_1 : List (S36)) (x13_1 : Int), v13 = .int .i64 x13_1 ∧ Aside0 (dom_Sets.l0 kq l0 x3_1 (y133.length : Int) x13_1 = some r) ∧ Aside0 (kq ≤ k) ∧ Aside0 (Kd.N k36 36 w' w.heap.size (fun k_ => (w.heap.size ≤ k_)) (.slice Ao6 y133.length co6) x3_1) ∧ Aside0 (Below w.heap.size w w'))
   case atStart => exact ⟨(y133), (0), (by first | rfl | (simp; done) | (simp [*]; done)), H', ⟨Nat.le_refl _⟩, ⟨by (with_reducible repeat (first | apply Kd.N_alloc | apply Kd.N_drewN | apply Kd.N_drew)); exact HO135.out⟩, ⟨by repeat (first | (with_reducible first | exact HB.out | apply below_alloc | apply pw_below_drewN | apply below_drew1) | exact HB.out)⟩⟩
   case round =>
    clear H'
    (try clear c2); (try clear c2b0); (try clear c2b1); (try clear c3); (try clear c3b0); (try clear c3b1)
    obtain ⟨x3_1, x13_1, rfl, HA, HK1, HO_3, HB⟩ := hrel
    have hl3_1 := (Kd.N_reads' HO_3.out).1
    rw [hl3_1] at HO_3
    (try simp only [hl3_1])
    cases gk with
    | zero => exact absurd HA.out (by simp [dom_Sets.l0])
    | succ k1 =>
     have H := HA.out
     clear HA
     simp only [dom_Sets.l0] at H
     by_cases c7 : x13_1 < (y133.length : Int)
     ·
      rw [if_pos c7] at H
      have c7b0 : decide (x13_1 < (y133.length : Int)) = true := decide_eq_true c7
      (try simp only [hl3_1] at c7b0)
      clear c7
      replace H := Option.bind_eq_some_iff.mp H
      obtain ⟨⟨t136, t137⟩, A80, H⟩ := H
      replace H : (if 0 ≤ x13_1 then (if x13_1 < (x3_1.length : Int) then (dom_Sets.l0 k1 l0 (x3_1.set (x13_1 : Int).toNat (⟨t136, t137⟩ : S36)) (y133.length : Int) (wrap64 (x13_1 + 1))) else (none)) else (none)) = some r := H
      have A8 := Aside0.mk A80
      clear A80
      by_cases c9 : 0 ≤ x13_1
      ·
       rw [if_pos c9] at H
       have c9b0 : decide (0 ≤ x13_1) = true := decide_eq_true c9
       clear c9
       by_cases c10 : x13_1 < (x3_1.length : Int)
       ·
        rw [if_pos c10] at H
        have c10b0 : decide (x13_1 < (x3_1.length : Int)) = true := decide_eq_true c10
        clear c10
        obtain ⟨y140, hy140⟩ : ∃ y_ : List (S36), y_ = (x3_1.set (x13_1 : Int).toNat (⟨t136, t137⟩ : S36)) := ⟨_, rfl⟩
        replace H : (dom_Sets.l0 k1 l0 y140 (y133.length : Int) (wrap64 (x13_1 + 1))) = some r := by first | (rw [hy140]; with_reducible exact H) | (have H2_ := (Option.bind_some _ _).symm.trans H; rw [hy140]; with_reducible exact H2_) | (have H2_ := (Option.bind_some _ _).symm.trans H; with_reducible exact H2_) | with_reducible exact H | (rw [hy140]; exact H) | exact H
        have Ny140 := Aside0.mk hy140
        clear hy140
        have H' := Aside0.mk H
        clear H
        go_wp2_with (first | ((with_reducible refine gate_callee (f := 60) rfl ?_); refine goesL_ (some 20) rfl rfl Try.func60 (by kernel_rfl) rfl #[.int .i64 (l0.length : Int)] rfl (by (try simp only [List.map_toArray, List.map_cons, List.map_nil]); first | done | rfl | (simp only [List.length_drop, List.length_take]; rfl)) ?_; (with_reducible refine (bits_New.calls (l0.length : Int) t136 t137 _ A8.out).mono ?_); rintro e w12 ⟨v138, rfl, ho0, hb⟩; refine ⟨_, rfl, ?_⟩; have n0_ := Aside0.mk (Kd.N_elder' (by (with_reducible repeat (first | apply Kd.N_alloc | apply Kd.N_drewN | apply Kd.N_drew)); exact HO_3.out) (Kd.R_base ho0) hb); have n1_ := Aside0.mk (Kd.R_lower (Kd.R_newM (M := fun k_ => (w.heap.size ≤ k_)) ho0 (below_size (by repeat (first | (with_reducible first | exact HB.out | apply below_alloc | apply pw_below_drewN | apply below_drew1) | exact HB.out))) (fun k_ h_ => h_)) (below_size (by repeat (first | (with_reducible first | exact HB.out | apply below_alloc | apply pw_below_drewN | apply below_drew1) | exact HB.out)))); have n2_ := Aside0.mk (below_step (by repeat (first | (with_reducible first | exact HB.out | apply below_alloc | apply pw_below_drewN | apply below_drew1) | exact HB.out)) hb); clear HO_3; clear HB; have HO_3 := n0_; have HO139 := n1_; have HB := n2_; clear n0_ n1_ n2_; obtain ⟨Av138, cv138, ev138⟩ := Kd.R_slice HO139.out; subst ev138; (try clear hb); (try clear hb2); (try clear hk); (try clear hi); (try clear ho0); have p11 : 0 ≤ (x13_1 : Int) := of_decide_eq_true (by first | (with_reducible assumption) | assumption); have q11 : (x13_1 : Int) < ((x3_1.length : Int) : Int) := of_decide_eq_true (by first | (with_reducible assumption) | assumption); obtain ⟨go11, co11, eo11, gb11, gl11, cl11, HG11⟩ := Kd.N_form HO_3.out (by omega); (first | cases eo11 | (injection eo11 with ea_ en_ ec_; (first | subst ea_ | (injection ea_ with ea_; subst ea_)); subst ec_; clear en_)); have GB11 := Aside0.mk gb11; have GG11 := Aside0.mk HG11; clear gb11 gl11 HG11; obtain ⟨ce11, hcl11, hM11, hcc11, hfr11⟩ := Kd.N_elem HO_3.out z36 (x13_1 : Int) p11 q11; obtain ⟨ua11_1, uc11_1, rfl, ul11_1, ge11_1⟩ := k36_openF hM11; have hx11_0 : w12.cell? ⟨go11, (x13_1 : Int).toNat * 2, none⟩ = some (.int .i64 ((rd_T36 x3_1 x13_1).f0)) := hcc11 0 _ rfl; have hx11_1 : w12.cell? ⟨go11, (x13_1 : Int).toNat * 2 + 1, none⟩ = some (.slice ua11_1 ((rd_T36 x3_1 x13_1).f1).length uc11_1) := hcc11 1 _ rfl; have hf11_0 : w12.frozen? ⟨go11, (x13_1 : Int).toNat * 2, none⟩ = false := hfr11 0; have hf11_1 : w12.frozen? ⟨go11, (x13_1 : Int).toNat * 2 + 1, none⟩ = false := hfr11 1; clear hcl11 hcc11 hfr11 hM11; replace p11 := eq_true p11; replace q11 := eq_true q11; have HX13 := Aside0.mk (show Kd.N k36 36 w12 w.heap.size (fun k_ => (w.heap.size ≤ k_)) (.slice (some ⟨go11, 0, none⟩) x3_1.length co6) x3_1 from (by (with_reducible repeat (first | apply Kd.N_alloc | apply Kd.N_drewN | apply Kd.N_drew)); exact Kd.N_mono HO_3.out (fun _ hk => hk.1))); obtain ⟨ce13, hcl13, hM13, hcc13, hfr13⟩ := Kd.N_elem HX13.out z36 (x13_1 : Int) (of_decide_eq_true (by first | (with_reducible assumption) | assumption)) (by have h_ : (x13_1 : Int) < ((x3_1.length : Int) : Int) := of_decide_eq_true (by first | (with_reducible assumption) | assumption); first | exact h_ | (have e_ := (Kd.N_reads' HO_3.out).1; omega) | simpa using h_); obtain ⟨ua13_1, uc13_1, rfl, ul13_1, ge13_1⟩ := k36_openF hM13; have HP13 := Kd.N_seg HX13.out (x13_1 : Int) (of_decide_eq_true (by first | (with_reducible assumption) | assumption)) (by have h_ : (x13_1 : Int) < ((x3_1.length : Int) : Int) := of_decide_eq_true (by first | (with_reducible assumption) | assumption); first | exact h_ | (have e_ := (Kd.N_reads' HO_3.out).1; omega) | simpa using h_) (seg := [.int .i64 t136, (.slice Av138 t137.length cv138)]) (j := 0) hcl13 hcc13 (show 2 ≤ 2 from by decide) (x' := (⟨t136, t137⟩ : S36)) (k36_mkF _ _ (⟨t136, t137⟩ : S36) (Kd.R_reads' (Kd.R_mono (ok' := (fun k_ => ((fun k_ => (w.heap.size ≤ k_))) k_ ∧ k_ ≠ go11)) (Kd.R_apart' (HO139.out) (Kd.N_typed HO_3.out) (by decide)) (fun k_ hk => ⟨hk.1.1, fun e_ => (hk.2) (by rw [e_]; rfl)⟩))).2.1 (Kd.R_F (Kd.R_mono (ok' := (fun k_ => ((fun k_ => (w.heap.size ≤ k_))) k_ ∧ k_ ≠ go11)) (Kd.R_apart' (HO139.out) (Kd.N_typed HO_3.out) (by decide)) (fun k_ hk => ⟨hk.1.1, fun e_ => (hk.2) (by rw [e_]; rfl)⟩)))) (fun _ hk => hk); have hx13_0 := hcc13 0 _ rfl; (try simp only [show (k36).sz = 2 from rfl, Nat.mul_one, Nat.add_zero] at hx13_0); have hf13_0 := hfr13 0; (try simp only [show (k36).sz = 2 from rfl, Nat.mul_one, Nat.add_zero] at hf13_0); have hx13_1 := hcc13 1 _ rfl; (try simp only [show (k36).sz = 2 from rfl, Nat.mul_one, Nat.add_zero] at hx13_1); have hf13_1 := hfr13 1; (try simp only [show (k36).sz = 2 from rfl, Nat.mul_one, Nat.add_zero] at hf13_1); clear hcl13 hcc13 hfr13 hM13) | ((with_reducible refine gate_store (t := 36) (p := 21) rfl ?_); refine store_event (t := 36) (p := 21) (v := ?vo_w14) (w1 := ((w12.setCell ⟨go11, (x13_1 : Int).toNat * 2, none⟩ (.int .i64 t136)).setCell ⟨go11, (x13_1 : Int).toNat * 2 + 1, none⟩ ((.slice Av138 t137.length cv138)))) ?hg ?ho ?hn ?hr ?_; (case ho => rfl); (case hg => rfl); (case hn => rfl); (case hr => first | (go_simp; done) | (go_simp; rfl)); intro w14 hw; have hg : w12.grownBy w14 (some go11) := (by rw [hw]; exact HP13.2); have hp_ : Kd.N k36 36 w14 w.heap.size (fun k_ => (w.heap.size ≤ k_)) (.slice (some ⟨go11, 0, none⟩) x3_1.length co6) y140 := (by rw [hw, Ny140.out]; exact HP13.1); clear HP13; have n0_ := Aside0.mk (hp_); have n1_ := Aside0.mk ((by rw [hw]; exact below_set (below_set (HB.out) GB11.out) GB11.out : Below w.heap.size w w14)); clear HO_3; clear HB; clear HO139; have HO_3 := n0_; have HB := n1_; clear n0_ n1_; clear hg hw hp_))
        (try simp only [← hl3_1])
        go_roundg k1
        case measure => have := HK1.out; omega
        case rel => exact ⟨(y140), (wrap64 (x13_1 + 1)), (by first | rfl | (simp; done) | (simp [*]; done)), H', ⟨by have := HK1.out; omega⟩, ⟨by (try simp only [hl3_1]); (with_reducible repeat (first | apply Kd.N_alloc | apply Kd.N_drewN | apply Kd.N_drew)); exact HO_3.out⟩, ⟨by repeat (first | (with_reducible first | exact HB.out | apply below_alloc | apply pw_below_drewN | apply below_drew1) | exact HB.out)⟩⟩
       ·
        rw [if_neg c10] at H
        exact absurd H (by simp)
      ·
       rw [if_neg c9] at H
       exact absurd H (by simp)
     ·
      rw [if_neg c7] at H
      have c7b0 : decide (x13_1 < (y133.length : Int)) = false := decide_eq_false c7
      (try simp only [hl3_1] at c7b0)
      clear c7
      replace H := Option.bind_eq_some_iff.mp H
      obtain ⟨t141, A150, H⟩ := H
      replace H : ((dom_Order.f l0).bind fun t144 => (dom_Sets.l1 k1 x3_1 t141 t144 (t144.length : Int) 0)) = some r := H
      have A15 := Aside0.mk A150
      clear A150
      replace H := Option.bind_eq_some_iff.mp H
      obtain ⟨t144, A160, H⟩ := H
      replace H : (dom_Sets.l1 k1 x3_1 t141 t144 (t144.length : Int) 0) = some r := H
      have A16 := Aside0.mk A160
      clear A160
      have H' := Aside0.mk H
      clear H
      go_wp2_with (first | ((with_reducible refine gate_callee (f := 20) rfl ?_); refine goesL_ (some 24) rfl rfl Try.func20 (by kernel_rfl) rfl #[.slice A0 l0.length c0] rfl (by (try simp only [List.map_toArray, List.map_cons, List.map_nil]); first | done | rfl | (simp only [List.length_drop, List.length_take]; rfl)) ?_; (with_reducible refine (dom_Idom.calls k1 _ _ l0 t141 _ ?side1 ?side2 A15.out).mono ?_); (case side1 => repeat (first | exact (Kd.C_below HR0.out HB.out) | (with_reducible refine Kd.C_alloc ?_ _) | (with_reducible refine Kd.C_drewN ?_ _) | (with_reducible refine Kd.C_drew ?_))); (case side2 => exact HC0.out); rintro e w17 ⟨v142, rfl, ho0, hb⟩; refine ⟨_, rfl, ?_⟩; have n0_ := Aside0.mk (Kd.N_elder' (by (with_reducible repeat (first | apply Kd.N_alloc | apply Kd.N_drewN | apply Kd.N_drew)); exact HO_3.out) (Kd.R_base ho0) hb); have n1_ := Aside0.mk (Kd.R_lower (Kd.R_newM (M := fun k_ => (w.heap.size ≤ k_)) ho0 (below_size (by repeat (first | (with_reducible first | exact HB.out | apply below_alloc | apply pw_below_drewN | apply below_drew1) | exact HB.out))) (fun k_ h_ => h_)) (below_size (by repeat (first | (with_reducible first | exact HB.out | apply below_alloc | apply pw_below_drewN | apply below_drew1) | exact HB.out)))); have n2_ := Aside0.mk (below_step (by repeat (first | (with_reducible first | exact HB.out | apply below_alloc | apply pw_below_drewN | apply below_drew1) | exact HB.out)) hb); clear HO_3; clear HB; have HO_3 := n0_; have HO143 := n1_; have HB := n2_; clear n0_ n1_ n2_; (try clear hb); (try clear hb2); (try clear hk); (try clear hi); (try clear ho0)) | ((with_reducible refine gate_callee (f := 18) rfl ?_); refine goesL_ (some 26) rfl rfl Try.func18 (by kernel_rfl) rfl #[.slice A0 l0.length c0] rfl (by (try simp only [List.map_toArray, List.map_cons, List.map_nil]); first | done | rfl | (simp only [List.length_drop, List.length_take]; rfl)) ?_; (with_reducible refine (dom_Order.calls _ _ l0 t144 _ ?side1 ?side2 A16.out).mono ?_); (case side1 => repeat (first | exact (Kd.C_below HR0.out HB.out) | (with_reducible refine Kd.C_alloc ?_ _) | (with_reducible refine Kd.C_drewN ?_ _) | (with_reducible refine Kd.C_drew ?_))); (case side2 => exact HC0.out); rintro e w18 ⟨v145, rfl, ho0, hb⟩; refine ⟨_, rfl, ?_⟩; have n0_ := Aside0.mk (Kd.N_elder' (by (with_reducible repeat (first | apply Kd.N_alloc | apply Kd.N_drewN | apply Kd.N_drew)); exact HO_3.out) (Kd.R_base ho0) hb); have n1_ := Aside0.mk (Kd.R_elder' (by (with_reducible repeat (first | apply Kd.R_alloc | apply Kd.R_drewN | apply Kd.R_drew)); exact HO143.out) (Kd.R_base ho0) hb); have n2_ := Aside0.mk (Kd.R_lower (Kd.R_new' (Kd.R_newM (M := fun k_ => (w.heap.size ≤ k_)) ho0 (below_size (by repeat (first | (with_reducible first | exact HB.out | apply below_alloc | apply pw_below_drewN | apply below_drew1) | exact HB.out))) (fun k_ h_ => h_)) (Kd.R_lt (by (with_reducible repeat (first | apply Kd.R_alloc | apply Kd.R_drewN | apply Kd.R_drew)); exact HO143.out))) (below_size (by repeat (first | (with_reducible first | exact HB.out | apply below_alloc | apply pw_below_drewN | apply below_drew1) | exact HB.out)))); have n3_ := Aside0.mk (below_step (by repeat (first | (with_reducible first | exact HB.out | apply below_alloc | apply pw_below_drewN | apply below_drew1) | exact HB.out)) hb); clear HO_3; clear HO143; clear HB; have HO_3 := n0_; have HO143 := n1_; have HO146 := n2_; have HB := n3_; clear n0_ n1_ n2_ n3_; (try clear hb); (try clear hb2); (try clear hk); (try clear hi); (try clear ho0); obtain ⟨Ao19, co19, eo19⟩ := Kd.R_slice HO146.out; subst eo19))
      go_loopg [28] k1 (fun kq v28 w' => ∃ (x3_2 : List (S36)) (x28_2 : Int), v28 = .int .i64 x28_2 ∧ Aside0 (dom_Sets.l1 kq x3_2 t141 t144 (t144.length : Int) x28_2 = some r) ∧ Aside0 (kq ≤ k1) ∧ Aside0 (Kd.N k36 36 w' w.heap.size (fun k_ => (w.heap.size ≤ k_) ∧ some k_ ≠ (v142 : Value).ownBlock ∧ some k_ ≠ ((.slice Ao19 t144.length co19) : Value).ownBlock) (.slice Ao6 x3_1.length co6) x3_2) ∧ Aside0 (Kd.R (Kd.int .i64) 3 w' w.heap.size (fun k_ => (w.heap.size ≤ k_) ∧ some k_ ≠ ((.slice Ao19 t144.length co19) : Value).ownBlock) v142 t141) ∧ Aside0 (Kd.R (Kd.int .i64) 3 w' w.heap.size (fun k_ => (w.heap.size ≤ k_) ∧ some k_ ≠ (v142 : Value).ownBlock) (.slice Ao19 t144.length co19) t144) ∧ Aside0 (Below w.heap.size w w'))
      case atStart => exact ⟨(x3_1), (0), (by first | rfl | (simp; done) | (simp [*]; done)), H', ⟨Nat.le_refl _⟩, ⟨by (try simp only [hl3_1]); (with_reducible repeat (first | apply Kd.N_alloc | apply Kd.N_drewN | apply Kd.N_drew)); exact Kd.N_mono HO_3.out (fun _ hk => ⟨hk.1.1, ⟨hk.1.2, hk.2⟩⟩)⟩, ⟨by (try simp only [hl3_1]); (with_reducible repeat (first | apply Kd.R_alloc | apply Kd.R_drewN | apply Kd.R_drew)); exact Kd.R_mono HO143.out (fun _ hk => ⟨hk.1.1, hk.2⟩)⟩, ⟨by (try simp only [hl3_1]); (with_reducible repeat (first | apply Kd.R_alloc | apply Kd.R_drewN | apply Kd.R_drew)); exact Kd.R_mono HO146.out (fun _ hk => ⟨hk.1.1, hk.2⟩)⟩, ⟨by repeat (first | (with_reducible first | exact HB.out | apply below_alloc | apply pw_below_drewN | apply below_drew1) | exact HB.out)⟩⟩
      case round =>
       clear H'
       (try clear c7); (try clear c7b0)
       obtain ⟨x3_2, x28_2, rfl, HA, HK2, HO_3, HO_5, HO_26, HB⟩ := hrel
       have hl3_2 := (Kd.N_reads' HO_3.out).1
       rw [hl3_2] at HO_3
       (try simp only [hl3_2])
       (try simp only [hl3_2] at HO_5)
       (try simp only [hl3_2] at HO_26)
       cases gk with
       | zero => exact absurd HA.out (by simp [dom_Sets.l1])
       | succ k2 =>
        have H := HA.out
        clear HA
        simp only [dom_Sets.l1] at H
        by_cases c20 : x28_2 < (t144.length : Int)
        ·
         rw [if_pos c20] at H
         have c20b0 : decide (x28_2 < (t144.length : Int)) = true := decide_eq_true c20
         clear c20
         by_cases c21 : 0 ≤ x28_2
         ·
          rw [if_pos c21] at H
          have c21b0 : decide (0 ≤ x28_2) = true := decide_eq_true c21
          clear c21
          by_cases c22 : x28_2 < (t144.length : Int)
          ·
           rw [if_pos c22] at H
           have c22b0 : decide (x28_2 < (t144.length : Int)) = true := decide_eq_true c22
           clear c22
           by_cases c23 : (rd t144 x28_2) > 0
           ·
            rw [if_pos c23] at H
            have c23b0 : decide (0 < (rd t144 x28_2)) = true := decide_eq_true c23
            clear c23
            by_cases c24 : 0 ≤ (rd t144 x28_2)
            ·
             rw [if_pos c24] at H
             have c24b0 : decide (0 ≤ (rd t144 x28_2)) = true := decide_eq_true c24
             clear c24
             by_cases c25 : (rd t144 x28_2) < (t141.length : Int)
             ·
              rw [if_pos c25] at H
              have c25b0 : decide ((rd t144 x28_2) < (t141.length : Int)) = true := decide_eq_true c25
              clear c25
              by_cases c26 : 0 ≤ (rd t141 (rd t144 x28_2))
              ·
               rw [if_pos c26] at H
               have c26b0 : decide (0 ≤ (rd t141 (rd t144 x28_2))) = true := decide_eq_true c26
               clear c26
               by_cases c27 : (rd t141 (rd t144 x28_2)) < (x3_2.length : Int)
               ·
                rw [if_pos c27] at H
                have c27b0 : decide ((rd t141 (rd t144 x28_2)) < (x3_2.length : Int)) = true := decide_eq_true c27
                clear c27
                by_cases c28 : (rd t144 x28_2) < (x3_2.length : Int)
                ·
                 rw [if_pos c28] at H
                 have c28b0 : decide ((rd t144 x28_2) < (x3_2.length : Int)) = true := decide_eq_true c28
                 clear c28
                 obtain ⟨y150, hy150⟩ : ∃ y_ : List (S36), y_ = (x3_2.set ((rd t144 x28_2) : Int).toNat (⟨(rd_T36 x3_2 (rd t141 (rd t144 x28_2))).f0, (rd_T36 x3_2 (rd t141 (rd t144 x28_2))).f1⟩ : S36)) := ⟨_, rfl⟩
                 replace H : ((bits_Set_With.f ((rd_T36 y150 (rd t144 x28_2)).f0) ((rd_T36 y150 (rd t144 x28_2)).f1) (rd t144 x28_2)).bind fun bt152 => (dom_Sets.l1 k2 (y150.set ((rd t144 x28_2) : Int).toNat (⟨bt152.1, bt152.2⟩ : S36)) t141 t144 (t144.length : Int) (wrap64 (x28_2 + 1)))) = some r := by first | (rw [hy150]; with_reducible exact H) | (have H2_ := (Option.bind_some _ _).symm.trans H; rw [hy150]; with_reducible exact H2_) | (have H2_ := (Option.bind_some _ _).symm.trans H; with_reducible exact H2_) | with_reducible exact H | (rw [hy150]; exact H) | exact H
                 have Ny150 := Aside0.mk hy150
                 clear hy150
                 replace H := Option.bind_eq_some_iff.mp H
                 obtain ⟨⟨t152, t153⟩, A300, H⟩ := H
                 replace H : (dom_Sets.l1 k2 (y150.set ((rd t144 x28_2) : Int).toNat (⟨t152, t153⟩ : S36)) t141 t144 (t144.length : Int) (wrap64 (x28_2 + 1))) = some r := H
                 have A30 := Aside0.mk A300
                 clear A300
                 obtain ⟨y156, hy156⟩ : ∃ y_ : List (S36), y_ = (y150.set ((rd t144 x28_2) : Int).toNat (⟨t152, t153⟩ : S36)) := ⟨_, rfl⟩
                 replace H : (dom_Sets.l1 k2 y156 t141 t144 (t144.length : Int) (wrap64 (x28_2 + 1))) = some r := by first | (rw [hy156]; with_reducible exact H) | (have H2_ := (Option.bind_some _ _).symm.trans H; rw [hy156]; with_reducible exact H2_) | (have H2_ := (Option.bind_some _ _).symm.trans H; with_reducible exact H2_) | with_reducible exact H | (rw [hy156]; exact H) | exact H
                 have Ny156 := Aside0.mk hy156
                 clear hy156
                 have H' := Aside0.mk H
                 clear H
                 have p147 : 0 ≤ (x28_2 : Int) := of_decide_eq_true (by first | (with_reducible assumption) | assumption)
                 have q147 : x28_2 < (t144.length : Int) := of_decide_eq_true (by first | (with_reducible assumption) | assumption)
                 obtain ⟨ad147, e147, hx147_0⟩ := Kd.at_int (Kd.R_reads' HO_26.out).2.2 x28_2 p147 q147
                 cases e147
                 replace p147 := eq_true p147
                 replace q147 := eq_true q147
                 obtain ⟨Ao32, co32, eo32⟩ := Kd.R_slice HO_5.out
                 subst eo32
                 have p148 : 0 ≤ ((rd t144 x28_2) : Int) := of_decide_eq_true (by first | (with_reducible assumption) | assumption)
                 have q148 : (rd t144 x28_2) < (t141.length : Int) := of_decide_eq_true (by first | (with_reducible assumption) | assumption)
                 obtain ⟨ad148, e148, hx148_0⟩ := Kd.at_int (Kd.R_reads' HO_5.out).2.2 (rd t144 x28_2) p148 q148
                 cases e148
                 replace p148 := eq_true p148
                 replace q148 := eq_true q148
                 have p149 : 0 ≤ ((rd t141 (rd t144 x28_2)) : Int) := of_decide_eq_true (by first | (with_reducible assumption) | assumption)
                 have q149 : (rd t141 (rd t144 x28_2)) < (x3_2.length : Int) := of_decide_eq_true (by first | (with_reducible assumption) | assumption)
                 obtain ⟨ad149, A149_1, c149_1, e149, hx149_0, hx149_1, hl149_1, hi149_1⟩ := at_T36 (Kd.N_reads' HO_3.out).2.2 (rd t141 (rd t144 x28_2)) p149 q149
                 cases e149
                 obtain ⟨ce149, hce149, hMe149, hcc149⟩ := Kd.N_get HO_3.out z36 (rd t141 (rd t144 x28_2)) p149 (by first | exact q149 | exact of_decide_eq_true (by first | (with_reducible assumption) | assumption) | (have e_ := (Kd.N_reads' HO_3.out).1; omega))
                 obtain ⟨ua149_1, uc149_1, rfl, ul149_1, ge149_1⟩ := k36_openF hMe149
                 have hv149_1 := hcc149 1 _ rfl
                 rw [add_field _ _ 1 (by omega)] at hv149_1
                 replace hv149_1 := Option.some.inj (hv149_1.symm.trans hx149_1)
                 injection hv149_1 with hva_ hvn_ hvc_
                 rw [hva_] at ge149_1
                 rw [hvc_] at ul149_1
                 have HL149_1 := Aside0.mk (show Kd.V (Kd.int .u64) 70 _ w.heap.size _ _ ((rd_T36 x3_2 (rd t141 (rd t144 x28_2))).f1) from Kd.V_mk ul149_1 ge149_1)
                 clear hva_ hvn_ hvc_ ge149_1 ul149_1
                 clear hcc149 hce149
                 have HR149_1 := Aside0.mk hi149_1
                 have HC149_1 := Aside0.mk hl149_1
                 clear hi149_1 hl149_1
                 replace p149 := eq_true p149
                 replace q149 := eq_true q149
                 have p29 : 0 ≤ ((rd t144 x28_2) : Int) := of_decide_eq_true (by first | (with_reducible assumption) | assumption)
                 have q29 : ((rd t144 x28_2) : Int) < ((x3_2.length : Int) : Int) := of_decide_eq_true (by first | (with_reducible assumption) | assumption)
                 obtain ⟨go29, co29, eo29, gb29, gl29, cl29, HG29⟩ := Kd.N_form HO_3.out (by omega)
                 (first | cases eo29 | (injection eo29 with ea_ en_ ec_; (first | subst ea_ | (injection ea_ with ea_; subst ea_)); subst ec_; clear en_))
                 have GB29 := Aside0.mk gb29
                 have GG29 := Aside0.mk HG29
                 clear gb29 gl29 HG29
                 (first | simp only [add_plain] at hx149_0 | skip)
                 (first | simp only [add_plain] at hx149_1 | skip)
                 obtain ⟨ce29, hcl29, hM29, hcc29, hfr29⟩ := Kd.N_elem HO_3.out z36 ((rd t144 x28_2) : Int) p29 q29
                 obtain ⟨ua29_1, uc29_1, rfl, ul29_1, ge29_1⟩ := k36_openF hM29
                 have hx29_0 : wr.cell? ⟨go29, ((rd t144 x28_2) : Int).toNat * 2, none⟩ = some (.int .i64 ((rd_T36 x3_2 (rd t144 x28_2)).f0)) := hcc29 0 _ rfl
                 have hx29_1 : wr.cell? ⟨go29, ((rd t144 x28_2) : Int).toNat * 2 + 1, none⟩ = some (.slice ua29_1 ((rd_T36 x3_2 (rd t144 x28_2)).f1).length uc29_1) := hcc29 1 _ rfl
                 have hf29_0 : wr.frozen? ⟨go29, ((rd t144 x28_2) : Int).toNat * 2, none⟩ = false := hfr29 0
                 have hf29_1 : wr.frozen? ⟨go29, ((rd t144 x28_2) : Int).toNat * 2 + 1, none⟩ = false := hfr29 1
                 clear hcl29 hcc29 hfr29 hM29
                 replace p29 := eq_true p29
                 replace q29 := eq_true q29
                 have HX33 := Aside0.mk (show Kd.N k36 36 wr w.heap.size (fun k_ => (w.heap.size ≤ k_) ∧ some k_ ≠ (.slice (some ad148) t141.length co32 : Value).ownBlock ∧ some k_ ≠ (.slice (some ad147) t144.length co19 : Value).ownBlock) (.slice (some ⟨go29, 0, none⟩) x3_2.length co6) x3_2 from (by (with_reducible repeat (first | apply Kd.N_alloc | apply Kd.N_drewN | apply Kd.N_drew)); exact HO_3.out))
                 obtain ⟨ce33, hcl33, hM33, hcc33, hfr33⟩ := Kd.N_elem HX33.out z36 ((rd t144 x28_2) : Int) (of_decide_eq_true (by first | (with_reducible assumption) | assumption)) (by have h_ : ((rd t144 x28_2) : Int) < ((x3_2.length : Int) : Int) := of_decide_eq_true (by first | (with_reducible assumption) | assumption); first | exact h_ | (have e_ := (Kd.N_reads' HO_3.out).1; omega) | simpa using h_)
                 obtain ⟨ua33_1, uc33_1, rfl, ul33_1, ge33_1⟩ := k36_openF hM33
                 have HP33 := Kd.N_seg HX33.out ((rd t144 x28_2) : Int) (of_decide_eq_true (by first | (with_reducible assumption) | assumption)) (by have h_ : ((rd t144 x28_2) : Int) < ((x3_2.length : Int) : Int) := of_decide_eq_true (by first | (with_reducible assumption) | assumption); first | exact h_ | (have e_ := (Kd.N_reads' HO_3.out).1; omega) | simpa using h_) (seg := [.int .i64 ((rd_T36 x3_2 (rd t141 (rd t144 x28_2))).f0), .slice A149_1 ((rd_T36 x3_2 (rd t141 (rd t144 x28_2))).f1).length c149_1]) (j := 0) hcl33 hcc33 (show 2 ≤ 2 from by decide) (x' := (⟨(rd_T36 x3_2 (rd t141 (rd t144 x28_2))).f0, (rd_T36 x3_2 (rd t141 (rd t144 x28_2))).f1⟩ : S36)) (k36_mkF _ _ (⟨(rd_T36 x3_2 (rd t141 (rd t144 x28_2))).f0, (rd_T36 x3_2 (rd t141 (rd t144 x28_2))).f1⟩ : S36) (Kd.V_reads' (Kd.V_mono (ok' := (fun k_ => ((fun k_ => (w.heap.size ≤ k_) ∧ some k_ ≠ (.slice (some ad148) t141.length co32 : Value).ownBlock ∧ some k_ ≠ (.slice (some ad147) t144.length co19 : Value).ownBlock)) k_ ∧ k_ ≠ go29)) (HL149_1.out) (fun k_ hk => ⟨⟨hk.1.1, ⟨hk.1.2.1, hk.1.2.2⟩⟩, fun e_ => (hk.2) (by rw [e_]; rfl)⟩))).2.1 (Kd.V_F (Kd.V_mono (ok' := (fun k_ => ((fun k_ => (w.heap.size ≤ k_) ∧ some k_ ≠ (.slice (some ad148) t141.length co32 : Value).ownBlock ∧ some k_ ≠ (.slice (some ad147) t144.length co19 : Value).ownBlock)) k_ ∧ k_ ≠ go29)) (HL149_1.out) (fun k_ hk => ⟨⟨hk.1.1, ⟨hk.1.2.1, hk.1.2.2⟩⟩, fun e_ => (hk.2) (by rw [e_]; rfl)⟩)))) (fun _ hk => hk)
                 have hx33_0 := hcc33 0 _ rfl
                 (try simp only [show (k36).sz = 2 from rfl, Nat.mul_one, Nat.add_zero] at hx33_0)
                 have hf33_0 := hfr33 0
                 (try simp only [show (k36).sz = 2 from rfl, Nat.mul_one, Nat.add_zero] at hf33_0)
                 have hx33_1 := hcc33 1 _ rfl
                 (try simp only [show (k36).sz = 2 from rfl, Nat.mul_one, Nat.add_zero] at hx33_1)
                 have hf33_1 := hfr33 1
                 (try simp only [show (k36).sz = 2 from rfl, Nat.mul_one, Nat.add_zero] at hf33_1)
                 clear hcl33 hcc33 hfr33 hM33
                 go_wp2_with (first | ((with_reducible refine gate_store (t := 36) (p := 43) rfl ?_); refine store_event (t := 36) (p := 43) (v := ?vo_w34) (w1 := ((wr.setCell ⟨go29, ((rd t144 x28_2) : Int).toNat * 2, none⟩ (.int .i64 ((rd_T36 x3_2 (rd t141 (rd t144 x28_2))).f0))).setCell ⟨go29, ((rd t144 x28_2) : Int).toNat * 2 + 1, none⟩ (.slice A149_1 ((rd_T36 x3_2 (rd t141 (rd t144 x28_2))).f1).length c149_1))) ?hg ?ho ?hn ?hr ?_; (case ho => rfl); (case hg => rfl); (case hn => rfl); (case hr => first | (go_simp; done) | (go_simp; rfl)); intro w34 hw; have hg : wr.grownBy w34 (some go29) := (by rw [hw]; exact HP33.2); have hp_ : Kd.N k36 36 w34 w.heap.size (fun k_ => (w.heap.size ≤ k_) ∧ some k_ ≠ (.slice (some ad148) t141.length co32 : Value).ownBlock ∧ some k_ ≠ (.slice (some ad147) t144.length co19 : Value).ownBlock) (.slice (some ⟨go29, 0, none⟩) x3_2.length co6) y150 := (by rw [hw, Ny150.out]; exact HP33.1); clear HP33; have n0_ := Aside0.mk (hp_); have n1_ := Aside0.mk (Kd.R_over' (v := (.slice (some ⟨go29, 0, none⟩) x3_2.length co6)) (by (with_reducible repeat (first | apply Kd.R_alloc | apply Kd.R_drewN | apply Kd.R_drew)); exact HO_5.out) (Kd.N_typed HO_3.out) (by decide) hg); have n2_ := Aside0.mk (Kd.R_over' (v := (.slice (some ⟨go29, 0, none⟩) x3_2.length co6)) (by (with_reducible repeat (first | apply Kd.R_alloc | apply Kd.R_drewN | apply Kd.R_drew)); exact HO_26.out) (Kd.N_typed HO_3.out) (by decide) hg); have n3_ := Aside0.mk (Kd.V_afterv (v := (.slice (some ⟨go29, 0, none⟩) x3_2.length co6)) (v1 := (.slice (some ⟨go29, 0, none⟩) x3_2.length co6)) (ok := (fun k_ => (w.heap.size ≤ k_) ∧ some k_ ≠ (.slice (some ad148) t141.length co32 : Value).ownBlock ∧ some k_ ≠ (.slice (some ad147) t144.length co19 : Value).ownBlock)) (by (with_reducible repeat (first | apply Kd.V_alloc | apply Kd.V_drewN | apply Kd.V_drew)); exact HL149_1.out) hg (.inl rfl)); have n4_ := Aside0.mk ((by rw [hw]; exact below_set (below_set (HB.out) GB29.out) GB29.out : Below w.heap.size w w34)); clear HO_3; clear HO_5; clear HO_26; clear HL149_1; clear HB; have HO_3 := n0_; have HO_5 := n1_; have HO_26 := n2_; have HL149_1 := n3_; have HB := n4_; clear n0_ n1_ n2_ n3_ n4_; clear hg hw hp_; have p151 : 0 ≤ ((rd t144 x28_2) : Int) := of_decide_eq_true (by first | (with_reducible assumption) | assumption); have q151 : (rd t144 x28_2) < (y150.length : Int) := (by have h_ : ((rd t144 x28_2) : Int) < ((x3_2.length : Int) : Int) := of_decide_eq_true (by first | (with_reducible assumption) | assumption); first | (have e_ := (Kd.N_reads' HO_3.out).1; omega) | simpa only [Ny150.out, List.length_set] using h_); have ql151 : (((rd t144 x28_2) : Int) < ((x3_2.length : Int) : Int)) = True := eq_true (of_decide_eq_true (by first | (with_reducible assumption) | assumption)); obtain ⟨ad151, A151_1, c151_1, e151, hx151_0, hx151_1, hl151_1, hi151_1⟩ := at_T36 (Kd.N_reads' HO_3.out).2.2 (rd t144 x28_2) p151 q151; obtain rfl : (⟨go29, 0, none⟩ : Addr) = ad151 := (by injection e151); obtain ⟨ce151, hce151, hMe151, hcc151⟩ := Kd.N_get HO_3.out z36 (rd t144 x28_2) p151 (by first | exact q151 | exact of_decide_eq_true (by first | (with_reducible assumption) | assumption) | (have e_ := (Kd.N_reads' HO_3.out).1; omega)); obtain ⟨ua151_1, uc151_1, rfl, ul151_1, ge151_1⟩ := k36_openF hMe151; have hv151_1 := hcc151 1 _ rfl; rw [add_field _ _ 1 (by omega)] at hv151_1; replace hv151_1 := Option.some.inj (hv151_1.symm.trans hx151_1); injection hv151_1 with hva_ hvn_ hvc_; rw [hva_] at ge151_1; rw [hvc_] at ul151_1; have HL151_1 := Aside0.mk (show Kd.V (Kd.int .u64) 70 _ w.heap.size _ _ ((rd_T36 y150 (rd t144 x28_2)).f1) from Kd.V_mk ul151_1 ge151_1); clear hva_ hvn_ hvc_ ge151_1 ul151_1; clear hcc151 hce151; (first | simp only [add_plain] at hx151_0 | simp only [add_at] at hx151_0 | simp only [Addr.add, Nat.zero_add] at hx151_0 | skip); (first | simp only [add_plain] at hx151_1 | simp only [add_at] at hx151_1 | simp only [Addr.add, Nat.zero_add] at hx151_1 | skip); have HR151_1 := Aside0.mk hi151_1; have HC151_1 := Aside0.mk hl151_1; clear hi151_1 hl151_1; replace p151 := eq_true p151; replace q151 := eq_true q151) | ((with_reducible refine gate_callee (f := 61) rfl ?_); refine goesL_ (some 51) rfl rfl Try.func61 (by kernel_rfl) rfl #[.agg #[.int .i64 ((rd_T36 y150 (rd t144 x28_2)).f0), .slice A151_1 ((rd_T36 y150 (rd t144 x28_2)).f1).length c151_1], .int .i64 (rd t144 x28_2)] rfl (by (try simp only [List.map_toArray, List.map_cons, List.map_nil]); first | done | rfl | (simp only [List.length_drop, List.length_take]; rfl)) ?_; (with_reducible refine (bits_Set_With.calls ((rd_T36 y150 (rd t144 x28_2)).f0) (fun k_ => (((w.heap.size ≤ k_) ∧ (some k_ ≠ (.slice (some ad148) t141.length co32 : Value).ownBlock ∧ some k_ ≠ (.slice (some ad147) t144.length co19 : Value).ownBlock)) ∧ some k_ ≠ (.slice (some ⟨go29, 0, none⟩) x3_2.length co6 : Value).ownBlock)) _ _ ((rd_T36 y150 (rd t144 x28_2)).f1) (rd t144 x28_2) t152 t153 _ ?side1 A30.out).mono ?_); (case side1 => exact HL151_1.out); rintro e w35 ⟨v154, rfl, ho0, hb⟩; refine ⟨_, rfl, ?_⟩; have n0_ := Aside0.mk (Kd.N_below (by (with_reducible repeat (first | apply Kd.N_alloc | apply Kd.N_drewN | apply Kd.N_drew)); exact HO_3.out) hb); have n1_ := Aside0.mk (Kd.R_below (by (with_reducible repeat (first | apply Kd.R_alloc | apply Kd.R_drewN | apply Kd.R_drew)); exact HO_5.out) hb); have n2_ := Aside0.mk (Kd.R_below (by (with_reducible repeat (first | apply Kd.R_alloc | apply Kd.R_drewN | apply Kd.R_drew)); exact HO_26.out) hb); have n3_ := Aside0.mk (Kd.V_below (by (with_reducible repeat (first | apply Kd.V_alloc | apply Kd.V_drewN | apply Kd.V_drew)); exact HL149_1.out) hb); have n4_ := Aside0.mk (Kd.V_below (by (with_reducible repeat (first | apply Kd.V_alloc | apply Kd.V_drewN | apply Kd.V_drew)); exact HL151_1.out) hb); have n5_ := Aside0.mk (Kd.V_lower (Kd.V_mono (ok' := fun k_ => (w.heap.size ≤ k_) ∧ some k_ ≠ (.slice (some ⟨go29, 0, none⟩) x3_2.length co6 : Value).ownBlock ∧ some k_ ≠ (.slice (some ad148) t141.length co32 : Value).ownBlock ∧ some k_ ≠ (.slice (some ad147) t144.length co19 : Value).ownBlock) ho0 (fun k_ hk_ => ⟨Or.elim hk_ (fun hs_ => hs_.1.1) (fun hn_ => (Nat.le_trans (below_size (by repeat (first | (with_reducible first | exact HB.out | apply below_alloc | apply pw_below_drewN | apply below_drew1) | exact HB.out))) hn_)), Or.elim hk_ (fun hs_ => hs_.2) (fun hn_ => (Kd.fresh' (Kd.N_lt (by (with_reducible repeat (first | apply Kd.N_alloc | apply Kd.N_drewN | apply Kd.N_drew)); exact HO_3.out)) k_ hn_)), Or.elim hk_ (fun hs_ => hs_.1.2.1) (fun hn_ => (Kd.fresh' (Kd.R_lt (by (with_reducible repeat (first | apply Kd.R_alloc | apply Kd.R_drewN | apply Kd.R_drew)); exact HO_5.out)) k_ hn_)), Or.elim hk_ (fun hs_ => hs_.1.2.2) (fun hn_ => (Kd.fresh' (Kd.R_lt (by (with_reducible repeat (first | apply Kd.R_alloc | apply Kd.R_drewN | apply Kd.R_drew)); exact HO_26.out)) k_ hn_))⟩)) (below_size (by repeat (first | (with_reducible first | exact HB.out | apply below_alloc | apply pw_below_drewN | apply below_drew1) | exact HB.out)))); have n6_ := Aside0.mk (Kd.C_below (by repeat (first | (with_reducible exact HR151_1.out) | (with_reducible refine Kd.C_alloc ?_ _) | (with_reducible refine Kd.C_drewN ?_ _) | (with_reducible refine Kd.C_drew ?_) | exact HR151_1.out)) hb); have n7_ := Aside0.mk (below_step (by repeat (first | (with_reducible first | exact HB.out | apply below_alloc | apply pw_below_drewN | apply below_drew1) | exact HB.out)) hb); clear HO_3; clear HO_5; clear HO_26; clear HL149_1; clear HL151_1; clear HR151_1; clear HB; have HO_3 := n0_; have HO_5 := n1_; have HO_26 := n2_; have HL149_1 := n3_; have HL151_1 := n4_; have HO155 := n5_; have HR151_1 := n6_; have HB := n7_; clear n0_ n1_ n2_ n3_ n4_ n5_ n6_ n7_; obtain ⟨Av154, cv154, ev154⟩ := Kd.V_slice HO155.out; subst ev154; (try clear hb); (try clear hb2); (try clear hk); (try clear hi); (try clear ho0); have p31 : 0 ≤ ((rd t144 x28_2) : Int) := of_decide_eq_true (by first | (with_reducible assumption) | assumption); have q31 : ((rd t144 x28_2) : Int) < ((x3_2.length : Int) : Int) := of_decide_eq_true (by first | (with_reducible assumption) | assumption); obtain ⟨ce31, hcl31, hM31, hcc31, hfr31⟩ := Kd.N_elem HO_3.out z36 ((rd t144 x28_2) : Int) p31 q31; obtain ⟨ua31_1, uc31_1, rfl, ul31_1, ge31_1⟩ := k36_openF hM31; have hx31_0 : w35.cell? ⟨go29, ((rd t144 x28_2) : Int).toNat * 2, none⟩ = some (.int .i64 ((rd_T36 y150 (rd t144 x28_2)).f0)) := hcc31 0 _ rfl; have hx31_1 : w35.cell? ⟨go29, ((rd t144 x28_2) : Int).toNat * 2 + 1, none⟩ = some (.slice ua31_1 ((rd_T36 y150 (rd t144 x28_2)).f1).length uc31_1) := hcc31 1 _ rfl; have hf31_0 : w35.frozen? ⟨go29, ((rd t144 x28_2) : Int).toNat * 2, none⟩ = false := hfr31 0; have hf31_1 : w35.frozen? ⟨go29, ((rd t144 x28_2) : Int).toNat * 2 + 1, none⟩ = false := hfr31 1; clear hcl31 hcc31 hfr31 hM31; replace p31 := eq_true p31; replace q31 := eq_true q31; have HX36 := Aside0.mk (show Kd.N k36 36 w35 w.heap.size (fun k_ => (w.heap.size ≤ k_) ∧ some k_ ≠ (.slice (some ad148) t141.length co32 : Value).ownBlock ∧ some k_ ≠ (.slice (some ad147) t144.length co19 : Value).ownBlock) (.slice (some ⟨go29, 0, none⟩) x3_2.length co6) y150 from (by (with_reducible repeat (first | apply Kd.N_alloc | apply Kd.N_drewN | apply Kd.N_drew)); exact HO_3.out)); obtain ⟨ce36, hcl36, hM36, hcc36, hfr36⟩ := Kd.N_elem HX36.out z36 ((rd t144 x28_2) : Int) (of_decide_eq_true (by first | (with_reducible assumption) | assumption)) (by have h_ : ((rd t144 x28_2) : Int) < ((x3_2.length : Int) : Int) := of_decide_eq_true (by first | (with_reducible assumption) | assumption); first | exact h_ | (have e_ := (Kd.N_reads' HO_3.out).1; omega) | simpa using h_); obtain ⟨ua36_1, uc36_1, rfl, ul36_1, ge36_1⟩ := k36_openF hM36; have HP36 := Kd.N_seg HX36.out ((rd t144 x28_2) : Int) (of_decide_eq_true (by first | (with_reducible assumption) | assumption)) (by have h_ : ((rd t144 x28_2) : Int) < ((x3_2.length : Int) : Int) := of_decide_eq_true (by first | (with_reducible assumption) | assumption); first | exact h_ | (have e_ := (Kd.N_reads' HO_3.out).1; omega) | simpa using h_) (seg := [.int .i64 t152, (.slice Av154 t153.length cv154)]) (j := 0) hcl36 hcc36 (show 2 ≤ 2 from by decide) (x' := (⟨t152, t153⟩ : S36)) (k36_mkF _ _ (⟨t152, t153⟩ : S36) (Kd.V_reads' (Kd.V_mono (ok' := (fun k_ => ((fun k_ => (w.heap.size ≤ k_) ∧ some k_ ≠ (.slice (some ad148) t141.length co32 : Value).ownBlock ∧ some k_ ≠ (.slice (some ad147) t144.length co19 : Value).ownBlock)) k_ ∧ k_ ≠ go29)) (HO155.out) (fun k_ hk => ⟨⟨hk.1, ⟨hk.2.2.1, hk.2.2.2⟩⟩, fun e_ => (hk.2.1) (by rw [e_]; rfl)⟩))).2.1 (Kd.V_F (Kd.V_mono (ok' := (fun k_ => ((fun k_ => (w.heap.size ≤ k_) ∧ some k_ ≠ (.slice (some ad148) t141.length co32 : Value).ownBlock ∧ some k_ ≠ (.slice (some ad147) t144.length co19 : Value).ownBlock)) k_ ∧ k_ ≠ go29)) (HO155.out) (fun k_ hk => ⟨⟨hk.1, ⟨hk.2.2.1, hk.2.2.2⟩⟩, fun e_ => (hk.2.1) (by rw [e_]; rfl)⟩)))) (fun _ hk => hk); have hx36_0 := hcc36 0 _ rfl; (try simp only [show (k36).sz = 2 from rfl, Nat.mul_one, Nat.add_zero] at hx36_0); have hf36_0 := hfr36 0; (try simp only [show (k36).sz = 2 from rfl, Nat.mul_one, Nat.add_zero] at hf36_0); have hx36_1 := hcc36 1 _ rfl; (try simp only [show (k36).sz = 2 from rfl, Nat.mul_one, Nat.add_zero] at hx36_1); have hf36_1 := hfr36 1; (try simp only [show (k36).sz = 2 from rfl, Nat.mul_one, Nat.add_zero] at hf36_1); clear hcl36 hcc36 hfr36 hM36) | ((with_reducible refine gate_store (t := 36) (p := 52) rfl ?_); refine store_event (t := 36) (p := 52) (v := ?vo_w37) (w1 := ((w35.setCell ⟨go29, ((rd t144 x28_2) : Int).toNat * 2, none⟩ (.int .i64 t152)).setCell ⟨go29, ((rd t144 x28_2) : Int).toNat * 2 + 1, none⟩ ((.slice Av154 t153.length cv154)))) ?hg ?ho ?hn ?hr ?_; (case ho => rfl); (case hg => rfl); (case hn => rfl); (case hr => first | (go_simp; done) | (go_simp; rfl)); intro w37 hw; have hg : w35.grownBy w37 (some go29) := (by rw [hw]; exact HP36.2); have hp_ : Kd.N k36 36 w37 w.heap.size (fun k_ => (w.heap.size ≤ k_) ∧ some k_ ≠ (.slice (some ad148) t141.length co32 : Value).ownBlock ∧ some k_ ≠ (.slice (some ad147) t144.length co19 : Value).ownBlock) (.slice (some ⟨go29, 0, none⟩) x3_2.length co6) y156 := (by rw [hw, Ny156.out]; exact HP36.1); clear HP36; have n0_ := Aside0.mk (hp_); have n1_ := Aside0.mk (Kd.R_over' (v := (.slice (some ⟨go29, 0, none⟩) x3_2.length co6)) (by (with_reducible repeat (first | apply Kd.R_alloc | apply Kd.R_drewN | apply Kd.R_drew)); exact HO_5.out) (Kd.N_typed HO_3.out) (by decide) hg); have n2_ := Aside0.mk (Kd.R_over' (v := (.slice (some ⟨go29, 0, none⟩) x3_2.length co6)) (by (with_reducible repeat (first | apply Kd.R_alloc | apply Kd.R_drewN | apply Kd.R_drew)); exact HO_26.out) (Kd.N_typed HO_3.out) (by decide) hg); have n3_ := Aside0.mk (Kd.V_afterv (v := (.slice (some ⟨go29, 0, none⟩) x3_2.length co6)) (v1 := (.slice (some ⟨go29, 0, none⟩) x3_2.length co6)) (ok := (fun k_ => (w.heap.size ≤ k_) ∧ some k_ ≠ (.slice (some ad148) t141.length co32 : Value).ownBlock ∧ some k_ ≠ (.slice (some ad147) t144.length co19 : Value).ownBlock)) (by (with_reducible repeat (first | apply Kd.V_alloc | apply Kd.V_drewN | apply Kd.V_drew)); exact HL149_1.out) hg (.inl rfl)); have n4_ := Aside0.mk (Kd.V_afterv (v := (.slice (some ⟨go29, 0, none⟩) x3_2.length co6)) (v1 := (.slice (some ⟨go29, 0, none⟩) x3_2.length co6)) (ok := (fun k_ => (w.heap.size ≤ k_) ∧ some k_ ≠ (.slice (some ad148) t141.length co32 : Value).ownBlock ∧ some k_ ≠ (.slice (some ad147) t144.length co19 : Value).ownBlock)) (by (with_reducible repeat (first | apply Kd.V_alloc | apply Kd.V_drewN | apply Kd.V_drew)); exact HL151_1.out) hg (.inl rfl)); have n5_ := Aside0.mk (Kd.V_afterv (v := (.slice (some ⟨go29, 0, none⟩) x3_2.length co6)) (v1 := (.slice (some ⟨go29, 0, none⟩) x3_2.length co6)) (ok := (fun k_ => (w.heap.size ≤ k_) ∧ some k_ ≠ (.slice (some ad148) t141.length co32 : Value).ownBlock ∧ some k_ ≠ (.slice (some ad147) t144.length co19 : Value).ownBlock)) (by (with_reducible repeat (first | apply Kd.V_alloc | apply Kd.V_drewN | apply Kd.V_drew)); exact Kd.V_mono HO155.out (fun _ hk => ⟨⟨hk.1, ⟨hk.2.2.1, hk.2.2.2⟩⟩, hk.2.1⟩)) hg (.inl rfl)); have n6_ := Aside0.mk ((by rw [hw]; exact below_set (below_set (HB.out) GB29.out) GB29.out : Below w.heap.size w w37)); clear HO_3; clear HO_5; clear HO_26; clear HL149_1; clear HL151_1; clear HO155; clear HB; have HO_3 := n0_; have HO_5 := n1_; have HO_26 := n2_; have HL149_1 := n3_; have HL151_1 := n4_; have HO155 := n5_; have HB := n6_; clear n0_ n1_ n2_ n3_ n4_ n5_ n6_; clear hg hw hp_))
                 (try simp only [← hl3_2])
                 go_roundg k2
                 case measure => have := HK1.out; have := HK2.out; omega
                 case rel => exact ⟨(y156), (wrap64 (x28_2 + 1)), (by first | rfl | (simp; done) | (simp [*]; done)), H', ⟨by have := HK1.out; have := HK2.out; omega⟩, ⟨by (try simp only [hl3_1]); (try simp only [hl3_2]); (with_reducible repeat (first | apply Kd.N_alloc | apply Kd.N_drewN | apply Kd.N_drew)); exact HO_3.out⟩, ⟨by (try simp only [hl3_1]); (try simp only [hl3_2]); (with_reducible repeat (first | apply Kd.R_alloc | apply Kd.R_drewN | apply Kd.R_drew)); exact HO_5.out⟩, ⟨by (try simp only [hl3_1]); (try simp only [hl3_2]); (with_reducible repeat (first | apply Kd.R_alloc | apply Kd.R_drewN | apply Kd.R_drew)); exact HO_26.out⟩, ⟨by repeat (first | (with_reducible first | exact HB.out | apply below_alloc | apply pw_below_drewN | apply below_drew1) | exact HB.out)⟩⟩
                ·
                 rw [if_neg c28] at H
                 exact absurd H (by simp)
               ·
                rw [if_neg c27] at H
                exact absurd H (by simp)
              ·
               rw [if_neg c26] at H
               exact absurd H (by simp)
             ·
              rw [if_neg c25] at H
              exact absurd H (by simp)
            ·
             rw [if_neg c24] at H
             exact absurd H (by simp)
           ·
            rw [if_neg c23] at H
            have c23b0 : decide (0 < (rd t144 x28_2)) = false := decide_eq_false c23
            clear c23
            by_cases c38 : 0 ≤ (rd t144 x28_2)
            ·
             rw [if_pos c38] at H
             have c38b0 : decide (0 ≤ (rd t144 x28_2)) = true := decide_eq_true c38
             clear c38
             by_cases c39 : (rd t144 x28_2) < (x3_2.length : Int)
             ·
              rw [if_pos c39] at H
              have c39b0 : decide ((rd t144 x28_2) < (x3_2.length : Int)) = true := decide_eq_true c39
              clear c39
              replace H := Option.bind_eq_some_iff.mp H
              obtain ⟨⟨t158, t159⟩, A400, H⟩ := H
              replace H : (dom_Sets.l1 k2 (x3_2.set ((rd t144 x28_2) : Int).toNat (⟨t158, t159⟩ : S36)) t141 t144 (t144.length : Int) (wrap64 (x28_2 + 1))) = some r := H
              have A40 := Aside0.mk A400
              clear A400
              obtain ⟨y162, hy162⟩ : ∃ y_ : List (S36), y_ = (x3_2.set ((rd t144 x28_2) : Int).toNat (⟨t158, t159⟩ : S36)) := ⟨_, rfl⟩
              replace H : (dom_Sets.l1 k2 y162 t141 t144 (t144.length : Int) (wrap64 (x28_2 + 1))) = some r := by first | (rw [hy162]; with_reducible exact H) | (have H2_ := (Option.bind_some _ _).symm.trans H; rw [hy162]; with_reducible exact H2_) | (have H2_ := (Option.bind_some _ _).symm.trans H; with_reducible exact H2_) | with_reducible exact H | (rw [hy162]; exact H) | exact H
              have Ny162 := Aside0.mk hy162
              clear hy162
              have H' := Aside0.mk H
              clear H
              have p147 : 0 ≤ (x28_2 : Int) := of_decide_eq_true (by first | (with_reducible assumption) | assumption)
              have q147 : x28_2 < (t144.length : Int) := of_decide_eq_true (by first | (with_reducible assumption) | assumption)
              obtain ⟨ad147, e147, hx147_0⟩ := Kd.at_int (Kd.R_reads' HO_26.out).2.2 x28_2 p147 q147
              cases e147
              replace p147 := eq_true p147
              replace q147 := eq_true q147
              have p157 : 0 ≤ ((rd t144 x28_2) : Int) := of_decide_eq_true (by first | (with_reducible assumption) | assumption)
              have q157 : (rd t144 x28_2) < (x3_2.length : Int) := of_decide_eq_true (by first | (with_reducible assumption) | assumption)
              obtain ⟨ad157, A157_1, c157_1, e157, hx157_0, hx157_1, hl157_1, hi157_1⟩ := at_T36 (Kd.N_reads' HO_3.out).2.2 (rd t144 x28_2) p157 q157
              cases e157
              obtain ⟨ce157, hce157, hMe157, hcc157⟩ := Kd.N_get HO_3.out z36 (rd t144 x28_2) p157 (by first | exact q157 | exact of_decide_eq_true (by first | (with_reducible assumption) | assumption) | (have e_ := (Kd.N_reads' HO_3.out).1; omega))
              obtain ⟨ua157_1, uc157_1, rfl, ul157_1, ge157_1⟩ := k36_openF hMe157
              have hv157_1 := hcc157 1 _ rfl
              rw [add_field _ _ 1 (by omega)] at hv157_1
              replace hv157_1 := Option.some.inj (hv157_1.symm.trans hx157_1)
              injection hv157_1 with hva_ hvn_ hvc_
              rw [hva_] at ge157_1
              rw [hvc_] at ul157_1
              have HL157_1 := Aside0.mk (show Kd.V (Kd.int .u64) 70 _ w.heap.size _ _ ((rd_T36 x3_2 (rd t144 x28_2)).f1) from Kd.V_mk ul157_1 ge157_1)
              clear hva_ hvn_ hvc_ ge157_1 ul157_1
              clear hcc157 hce157
              have HR157_1 := Aside0.mk hi157_1
              have HC157_1 := Aside0.mk hl157_1
              clear hi157_1 hl157_1
              replace p157 := eq_true p157
              replace q157 := eq_true q157
              go_wp2_with (first | ((with_reducible refine gate_callee (f := 61) rfl ?_); refine goesL_ (some 51) rfl rfl Try.func61 (by kernel_rfl) rfl #[.agg #[.int .i64 ((rd_T36 x3_2 (rd t144 x28_2)).f0), .slice A157_1 ((rd_T36 x3_2 (rd t144 x28_2)).f1).length c157_1], .int .i64 (rd t144 x28_2)] rfl (by (try simp only [List.map_toArray, List.map_cons, List.map_nil]); first | done | rfl | (simp only [List.length_drop, List.length_take]; rfl)) ?_; (with_reducible refine (bits_Set_With.calls ((rd_T36 x3_2 (rd t144 x28_2)).f0) (fun k_ => (((w.heap.size ≤ k_) ∧ (some k_ ≠ (v142 : Value).ownBlock ∧ some k_ ≠ (.slice (some ad147) t144.length co19 : Value).ownBlock)) ∧ some k_ ≠ (.slice (some ad157) x3_2.length co6 : Value).ownBlock)) _ _ ((rd_T36 x3_2 (rd t144 x28_2)).f1) (rd t144 x28_2) t158 t159 _ ?side1 A40.out).mono ?_); (case side1 => exact HL157_1.out); rintro e w42 ⟨v160, rfl, ho0, hb⟩; refine ⟨_, rfl, ?_⟩; have n0_ := Aside0.mk (Kd.N_below (by (with_reducible repeat (first | apply Kd.N_alloc | apply Kd.N_drewN | apply Kd.N_drew)); exact HO_3.out) hb); have n1_ := Aside0.mk (Kd.R_below (by (with_reducible repeat (first | apply Kd.R_alloc | apply Kd.R_drewN | apply Kd.R_drew)); exact HO_5.out) hb); have n2_ := Aside0.mk (Kd.R_below (by (with_reducible repeat (first | apply Kd.R_alloc | apply Kd.R_drewN | apply Kd.R_drew)); exact HO_26.out) hb); have n3_ := Aside0.mk (Kd.V_below (by (with_reducible repeat (first | apply Kd.V_alloc | apply Kd.V_drewN | apply Kd.V_drew)); exact HL157_1.out) hb); have n4_ := Aside0.mk (Kd.V_lower (Kd.V_mono (ok' := fun k_ => (w.heap.size ≤ k_) ∧ some k_ ≠ (.slice (some ad157) x3_2.length co6 : Value).ownBlock ∧ some k_ ≠ (v142 : Value).ownBlock ∧ some k_ ≠ (.slice (some ad147) t144.length co19 : Value).ownBlock) ho0 (fun k_ hk_ => ⟨Or.elim hk_ (fun hs_ => hs_.1.1) (fun hn_ => (Nat.le_trans (below_size (by repeat (first | (with_reducible first | exact HB.out | apply below_alloc | apply pw_below_drewN | apply below_drew1) | exact HB.out))) hn_)), Or.elim hk_ (fun hs_ => hs_.2) (fun hn_ => (Kd.fresh' (Kd.N_lt (by (with_reducible repeat (first | apply Kd.N_alloc | apply Kd.N_drewN | apply Kd.N_drew)); exact HO_3.out)) k_ hn_)), Or.elim hk_ (fun hs_ => hs_.1.2.1) (fun hn_ => (Kd.fresh' (Kd.R_lt (by (with_reducible repeat (first | apply Kd.R_alloc | apply Kd.R_drewN | apply Kd.R_drew)); exact HO_5.out)) k_ hn_)), Or.elim hk_ (fun hs_ => hs_.1.2.2) (fun hn_ => (Kd.fresh' (Kd.R_lt (by (with_reducible repeat (first | apply Kd.R_alloc | apply Kd.R_drewN | apply Kd.R_drew)); exact HO_26.out)) k_ hn_))⟩)) (below_size (by repeat (first | (with_reducible first | exact HB.out | apply below_alloc | apply pw_below_drewN | apply below_drew1) | exact HB.out)))); have n5_ := Aside0.mk (Kd.C_below (by repeat (first | (with_reducible exact HR157_1.out) | (with_reducible refine Kd.C_alloc ?_ _) | (with_reducible refine Kd.C_drewN ?_ _) | (with_reducible refine Kd.C_drew ?_) | exact HR157_1.out)) hb); have n6_ := Aside0.mk (below_step (by repeat (first | (with_reducible first | exact HB.out | apply below_alloc | apply pw_below_drewN | apply below_drew1) | exact HB.out)) hb); clear HO_3; clear HO_5; clear HO_26; clear HL157_1; clear HR157_1; clear HB; have HO_3 := n0_; have HO_5 := n1_; have HO_26 := n2_; have HL157_1 := n3_; have HO161 := n4_; have HR157_1 := n5_; have HB := n6_; clear n0_ n1_ n2_ n3_ n4_ n5_ n6_; obtain ⟨Av160, cv160, ev160⟩ := Kd.V_slice HO161.out; subst ev160; (try clear hb); (try clear hb2); (try clear hk); (try clear hi); (try clear ho0); have p41 : 0 ≤ ((rd t144 x28_2) : Int) := of_decide_eq_true (by first | (with_reducible assumption) | assumption); have q41 : ((rd t144 x28_2) : Int) < ((x3_2.length : Int) : Int) := of_decide_eq_true (by first | (with_reducible assumption) | assumption); obtain ⟨go41, co41, eo41, gb41, gl41, cl41, HG41⟩ := Kd.N_form HO_3.out (by omega); (first | cases eo41 | (injection eo41 with ea_ en_ ec_; (first | subst ea_ | (injection ea_ with ea_; subst ea_)); subst ec_; clear en_)); have GB41 := Aside0.mk gb41; have GG41 := Aside0.mk HG41; clear gb41 gl41 HG41; (first | simp only [add_plain] at hx157_0 | skip); (first | simp only [add_plain] at hx157_1 | skip); obtain ⟨ce41, hcl41, hM41, hcc41, hfr41⟩ := Kd.N_elem HO_3.out z36 ((rd t144 x28_2) : Int) p41 q41; obtain ⟨ua41_1, uc41_1, rfl, ul41_1, ge41_1⟩ := k36_openF hM41; have hx41_0 : w42.cell? ⟨go41, ((rd t144 x28_2) : Int).toNat * 2, none⟩ = some (.int .i64 ((rd_T36 x3_2 (rd t144 x28_2)).f0)) := hcc41 0 _ rfl; have hx41_1 : w42.cell? ⟨go41, ((rd t144 x28_2) : Int).toNat * 2 + 1, none⟩ = some (.slice ua41_1 ((rd_T36 x3_2 (rd t144 x28_2)).f1).length uc41_1) := hcc41 1 _ rfl; have hf41_0 : w42.frozen? ⟨go41, ((rd t144 x28_2) : Int).toNat * 2, none⟩ = false := hfr41 0; have hf41_1 : w42.frozen? ⟨go41, ((rd t144 x28_2) : Int).toNat * 2 + 1, none⟩ = false := hfr41 1; clear hcl41 hcc41 hfr41 hM41; replace p41 := eq_true p41; replace q41 := eq_true q41; have HX43 := Aside0.mk (show Kd.N k36 36 w42 w.heap.size (fun k_ => (w.heap.size ≤ k_) ∧ some k_ ≠ (v142 : Value).ownBlock ∧ some k_ ≠ (.slice (some ad147) t144.length co19 : Value).ownBlock) (.slice (some ⟨go41, 0, none⟩) x3_2.length co6) x3_2 from (by (with_reducible repeat (first | apply Kd.N_alloc | apply Kd.N_drewN | apply Kd.N_drew)); exact HO_3.out)); obtain ⟨ce43, hcl43, hM43, hcc43, hfr43⟩ := Kd.N_elem HX43.out z36 ((rd t144 x28_2) : Int) (of_decide_eq_true (by first | (with_reducible assumption) | assumption)) (by have h_ : ((rd t144 x28_2) : Int) < ((x3_2.length : Int) : Int) := of_decide_eq_true (by first | (with_reducible assumption) | assumption); first | exact h_ | (have e_ := (Kd.N_reads' HO_3.out).1; omega) | simpa using h_); obtain ⟨ua43_1, uc43_1, rfl, ul43_1, ge43_1⟩ := k36_openF hM43; have HP43 := Kd.N_seg HX43.out ((rd t144 x28_2) : Int) (of_decide_eq_true (by first | (with_reducible assumption) | assumption)) (by have h_ : ((rd t144 x28_2) : Int) < ((x3_2.length : Int) : Int) := of_decide_eq_true (by first | (with_reducible assumption) | assumption); first | exact h_ | (have e_ := (Kd.N_reads' HO_3.out).1; omega) | simpa using h_) (seg := [.int .i64 t158, (.slice Av160 t159.length cv160)]) (j := 0) hcl43 hcc43 (show 2 ≤ 2 from by decide) (x' := (⟨t158, t159⟩ : S36)) (k36_mkF _ _ (⟨t158, t159⟩ : S36) (Kd.V_reads' (Kd.V_mono (ok' := (fun k_ => ((fun k_ => (w.heap.size ≤ k_) ∧ some k_ ≠ (v142 : Value).ownBlock ∧ some k_ ≠ (.slice (some ad147) t144.length co19 : Value).ownBlock)) k_ ∧ k_ ≠ go41)) (HO161.out) (fun k_ hk => ⟨⟨hk.1, ⟨hk.2.2.1, hk.2.2.2⟩⟩, fun e_ => (hk.2.1) (by rw [e_]; rfl)⟩))).2.1 (Kd.V_F (Kd.V_mono (ok' := (fun k_ => ((fun k_ => (w.heap.size ≤ k_) ∧ some k_ ≠ (v142 : Value).ownBlock ∧ some k_ ≠ (.slice (some ad147) t144.length co19 : Value).ownBlock)) k_ ∧ k_ ≠ go41)) (HO161.out) (fun k_ hk => ⟨⟨hk.1, ⟨hk.2.2.1, hk.2.2.2⟩⟩, fun e_ => (hk.2.1) (by rw [e_]; rfl)⟩)))) (fun _ hk => hk); have hx43_0 := hcc43 0 _ rfl; (try simp only [show (k36).sz = 2 from rfl, Nat.mul_one, Nat.add_zero] at hx43_0); have hf43_0 := hfr43 0; (try simp only [show (k36).sz = 2 from rfl, Nat.mul_one, Nat.add_zero] at hf43_0); have hx43_1 := hcc43 1 _ rfl; (try simp only [show (k36).sz = 2 from rfl, Nat.mul_one, Nat.add_zero] at hx43_1); have hf43_1 := hfr43 1; (try simp only [show (k36).sz = 2 from rfl, Nat.mul_one, Nat.add_zero] at hf43_1); clear hcl43 hcc43 hfr43 hM43) | ((with_reducible refine gate_store (t := 36) (p := 52) rfl ?_); refine store_event (t := 36) (p := 52) (v := ?vo_w44) (w1 := ((w42.setCell ⟨go41, ((rd t144 x28_2) : Int).toNat * 2, none⟩ (.int .i64 t158)).setCell ⟨go41, ((rd t144 x28_2) : Int).toNat * 2 + 1, none⟩ ((.slice Av160 t159.length cv160)))) ?hg ?ho ?hn ?hr ?_; (case ho => rfl); (case hg => rfl); (case hn => rfl); (case hr => first | (go_simp; done) | (go_simp; rfl)); intro w44 hw; have hg : w42.grownBy w44 (some go41) := (by rw [hw]; exact HP43.2); have hp_ : Kd.N k36 36 w44 w.heap.size (fun k_ => (w.heap.size ≤ k_) ∧ some k_ ≠ (v142 : Value).ownBlock ∧ some k_ ≠ (.slice (some ad147) t144.length co19 : Value).ownBlock) (.slice (some ⟨go41, 0, none⟩) x3_2.length co6) y162 := (by rw [hw, Ny162.out]; exact HP43.1); clear HP43; have n0_ := Aside0.mk (hp_); have n1_ := Aside0.mk (Kd.R_over' (v := (.slice (some ⟨go41, 0, none⟩) x3_2.length co6)) (by (with_reducible repeat (first | apply Kd.R_alloc | apply Kd.R_drewN | apply Kd.R_drew)); exact HO_5.out) (Kd.N_typed HO_3.out) (by decide) hg); have n2_ := Aside0.mk (Kd.R_over' (v := (.slice (some ⟨go41, 0, none⟩) x3_2.length co6)) (by (with_reducible repeat (first | apply Kd.R_alloc | apply Kd.R_drewN | apply Kd.R_drew)); exact HO_26.out) (Kd.N_typed HO_3.out) (by decide) hg); have n3_ := Aside0.mk (Kd.V_afterv (v := (.slice (some ⟨go41, 0, none⟩) x3_2.length co6)) (v1 := (.slice (some ⟨go41, 0, none⟩) x3_2.length co6)) (ok := (fun k_ => (w.heap.size ≤ k_) ∧ some k_ ≠ (v142 : Value).ownBlock ∧ some k_ ≠ (.slice (some ad147) t144.length co19 : Value).ownBlock)) (by (with_reducible repeat (first | apply Kd.V_alloc | apply Kd.V_drewN | apply Kd.V_drew)); exact HL157_1.out) hg (.inl rfl)); have n4_ := Aside0.mk (Kd.V_afterv (v := (.slice (some ⟨go41, 0, none⟩) x3_2.length co6)) (v1 := (.slice (some ⟨go41, 0, none⟩) x3_2.length co6)) (ok := (fun k_ => (w.heap.size ≤ k_) ∧ some k_ ≠ (v142 : Value).ownBlock ∧ some k_ ≠ (.slice (some ad147) t144.length co19 : Value).ownBlock)) (by (with_reducible repeat (first | apply Kd.V_alloc | apply Kd.V_drewN | apply Kd.V_drew)); exact Kd.V_mono HO161.out (fun _ hk => ⟨⟨hk.1, ⟨hk.2.2.1, hk.2.2.2⟩⟩, hk.2.1⟩)) hg (.inl rfl)); have n5_ := Aside0.mk ((by rw [hw]; exact below_set (below_set (HB.out) GB41.out) GB41.out : Below w.heap.size w w44)); clear HO_3; clear HO_5; clear HO_26; clear HL157_1; clear HO161; clear HB; have HO_3 := n0_; have HO_5 := n1_; have HO_26 := n2_; have HL157_1 := n3_; have HO161 := n4_; have HB := n5_; clear n0_ n1_ n2_ n3_ n4_ n5_; clear hg hw hp_))
              (try simp only [← hl3_2])
              go_roundg k2
              case measure => have := HK1.out; have := HK2.out; omega
              case rel => exact ⟨(y162), (wrap64 (x28_2 + 1)), (by first | rfl | (simp; done) | (simp [*]; done)), H', ⟨by have := HK1.out; have := HK2.out; omega⟩, ⟨by (try simp only [hl3_1]); (try simp only [hl3_2]); (with_reducible repeat (first | apply Kd.N_alloc | apply Kd.N_drewN | apply Kd.N_drew)); exact HO_3.out⟩, ⟨by (try simp only [hl3_1]); (try simp only [hl3_2]); (with_reducible repeat (first | apply Kd.R_alloc | apply Kd.R_drewN | apply Kd.R_drew)); exact HO_5.out⟩, ⟨by (try simp only [hl3_1]); (try simp only [hl3_2]); (with_reducible repeat (first | apply Kd.R_alloc | apply Kd.R_drewN | apply Kd.R_drew)); exact HO_26.out⟩, ⟨by repeat (first | (with_reducible first | exact HB.out | apply below_alloc | apply pw_below_drewN | apply below_drew1) | exact HB.out)⟩⟩
             ·
              rw [if_neg c39] at H
              exact absurd H (by simp)
            ·
             rw [if_neg c38] at H
             exact absurd H (by simp)
          ·
           rw [if_neg c22] at H
           exact absurd H (by simp)
         ·
          rw [if_neg c21] at H
          exact absurd H (by simp)
        ·
         rw [if_neg c20] at H
         have c20b0 : decide (x28_2 < (t144.length : Int)) = false := decide_eq_false c20
         clear c20
         obtain rfl := Option.some.inj H
         go_wp2
         go_ret
         exact ⟨_, by first | rfl | (simp [errW_none, errW_some] <;> rfl) | (simp [*, errW_none, errW_some] <;> rfl), by (with_reducible repeat (first | apply Kd.N_alloc | apply Kd.N_drewN | apply Kd.N_drew)); exact Kd.N_mono HO_3.out (fun _ hk => hk.1), by repeat (first | (with_reducible first | exact HB.out | apply below_alloc | apply pw_below_drewN | apply below_drew1) | exact HB.out)⟩
  ·
   rw [if_neg c3] at H
   exact absurd H (by simp)
 ·
  rw [if_neg c2] at H
  exact absurd H (by simp)

end Go.Proofs.Ytalhmelcbodjeaa.QDomSets
