-- Printed by a program of this session's over the kit's printer (wip/patch_print.py).
import Derived.Test.YtfiffhcpgojkhaaQFlowBlocksx0
import Derived.Test.YtfiffhcpgojkhaaQFlowBlocksx5
import Derived.Test.YtfiffhcpgojkhaaQFlowBlocksx6
namespace Go.Proofs.Ytfiffhcpgojkhaa.QFlowBlocks
open Go.RowKit Go.Proofs.Ytfiffhcpgojkhaa Go.Proofs.YtfiffhcpgojkhaaW.PrintWords Go.Proofs.YtfiffhcpgojkhaaW.PrintLast Go.Proofs.YtfiffhcpgojkhaaW.PrintMore
attribute [local go_sem] setCell_drewN0 max2_int min2_int max_two min_two max_three min_three max_four min_four   -- for this text's walks alone
set_option linter.unusedVariables false
set_option linter.unusedSimpArgs false

/-! ### ladderbackref30_Met: function 21 -/
theorem p7_0 {P : Prop} (h : P := by first | (with_reducible assumption) | assumption) : P := h
theorem p7_1 {P : Prop} (h : P := by first | rfl | (simp; done) | (simp [*]; done)) : P := h
theorem p7_2 {P : Prop} (h : P := by repeat (first | (with_reducible first | exact HB.out | apply below_alloc | apply pw_below_drewN | apply below_drew1) | exact HB.out)) : P := h
mutual
def ladderbackref30_Met.j0 : Nat → List (S44) → Bool → Option (List Bool)
 | 0, _, _ => none
 | k + 1, x0, x16 => if x16 = true then (some ([] : List Bool)) else (if 0 ≤ (x0.length : Int) then (if ((x0.length : Int) : Int).toNat ≤ 281474976710656 then ((some (List.replicate ((x0.length : Int) : Int).toNat false : List Bool)).bind fun y248 => (if 0 < (y248.length : Int) then (ladderbackref30_Met.l0 k x0 (y248.set (0 : Int).toNat true) 0) else (none))) else (none)) else (none))
def ladderbackref30_Met.l0 : Nat → List (S44) → List Bool → Int → Option (List Bool)
 | 0, _, _, _ => none
 | k + 1, x0, x3, x4 => if x4 < (x0.length : Int) then (ladderbackref30_Met.l1 k x0 x3 x4 false 0) else (some x3)
def ladderbackref30_Met.l1 : Nat → List (S44) → List Bool → Int → Bool → Int → Option (List Bool)
 | 0, _, _, _, _, _ => none
 | k + 1, x0, x3, x4, x5, x6 => if x6 < (x0.length : Int) then (if 0 ≤ x6 then (if x6 < (x3.length : Int) then (if rdOf false x3 x6 = true then ((ladderbackref30_Goes.f k x0 x6).bind fun t253 => (ladderbackref30_Met.l2 k x0 x3 x4 x5 x6 t253 0)) else (ladderbackref30_Met.l1 k x0 x3 x4 x5 (wrap64 (x6 + 1)))) else (none)) else (none)) else (if x5 = true then (ladderbackref30_Met.l0 k x0 x3 (wrap64 (x4 + 1))) else (some x3))
def ladderbackref30_Met.l2 : Nat → List (S44) → List Bool → Int → Bool → Int → List Int → Int → Option (List Bool)
 | 0, _, _, _, _, _, _, _ => none
 | k + 1, x0, x3, x4, x5, x6, x7, x8 => if x8 < (x7.length : Int) then (if 0 ≤ x8 then (if (rd x7 x8) ≥ (x0.length : Int) then (some ([] : List Bool)) else (if x5 = true then (if 0 ≤ (rd x7 x8) then (if (rd x7 x8) < (x3.length : Int) then (ladderbackref30_Met.l2 k x0 (x3.set ((rd x7 x8) : Int).toNat true) x4 true x6 x7 (wrap64 (x8 + 1))) else (none)) else (none)) else (if 0 ≤ (rd x7 x8) then (if (rd x7 x8) < (x3.length : Int) then (ladderbackref30_Met.l2 k x0 (x3.set ((rd x7 x8) : Int).toNat true) x4 (!(rdOf false x3 (rd x7 x8))) x6 x7 (wrap64 (x8 + 1))) else (none)) else (none)))) else (none)) else (ladderbackref30_Met.l1 k x0 x3 x4 x5 (wrap64 (x6 + 1)))
end
def ladderbackref30_Met.f (k : Nat) (l0 : List (S44)) : Option (List Bool) := if (l0.length : Int) = 0 then (ladderbackref30_Met.j0 k l0 true) else ((ladderbackref30_Jumps.f k l0).bind fun t247 => (ladderbackref30_Met.j0 k l0 (!t247)))
theorem ladderbackref30_Met.mono_l : ∀ k, (∀ y0 y1, LeO (ladderbackref30_Met.j0 k y0 y1) (ladderbackref30_Met.j0 (k + 1) y0 y1)) ∧ (∀ y0 y1 y2, LeO (ladderbackref30_Met.l0 k y0 y1 y2) (ladderbackref30_Met.l0 (k + 1) y0 y1 y2)) ∧ (∀ y0 y1 y2 y3 y4, LeO (ladderbackref30_Met.l1 k y0 y1 y2 y3 y4) (ladderbackref30_Met.l1 (k + 1) y0 y1 y2 y3 y4)) ∧ (∀ y0 y1 y2 y3 y4 y5 y6, LeO (ladderbackref30_Met.l2 k y0 y1 y2 y3 y4 y5 y6) (ladderbackref30_Met.l2 (k + 1) y0 y1 y2 y3 y4 y5 y6))
 | 0 => ⟨fun _ _ r h => by simp [ladderbackref30_Met.j0] at h, fun _ _ _ r h => by simp [ladderbackref30_Met.l0] at h, fun _ _ _ _ _ r h => by simp [ladderbackref30_Met.l1] at h, fun _ _ _ _ _ _ _ r h => by simp [ladderbackref30_Met.l2] at h⟩
 | k + 1 => by
  obtain ⟨ih0, ih1, ih2, ih3⟩ := ladderbackref30_Met.mono_l k
  refine ⟨?_, ?_, ?_, ?_⟩
  ·
   intro y0 y1
   unfold ladderbackref30_Met.j0
   repeat' first
   | (with_reducible exact ih0 _ _)
   | (with_reducible exact ih1 _ _ _)
   | (with_reducible exact ih2 _ _ _ _ _)
   | (with_reducible exact ih3 _ _ _ _ _ _ _)
   | (with_reducible exact ladderbackref30_Goes.mono _ _ _)
   | (with_reducible exact ladderbackref30_Jumps.mono _ _)
   | (with_reducible exact LeO.refl _)
   | (with_reducible exact LeO.none _)
   | (with_reducible refine LeO.ite ?_ ?_)
   | (with_reducible refine LeO.bind ?_ (fun _ => ?_))
   | exact ih0 _ _
   | exact ih1 _ _ _
   | exact ih2 _ _ _ _ _
   | exact ih3 _ _ _ _ _ _ _
   | exact ladderbackref30_Goes.mono _ _ _
   | exact ladderbackref30_Jumps.mono _ _
   | exact LeO.none _
   | refine LeO.ite ?_ ?_
   | refine LeO.bind ?_ (fun _ => ?_)
  ·
   intro y0 y1 y2
   unfold ladderbackref30_Met.l0
   repeat' first
   | (with_reducible exact ih0 _ _)
   | (with_reducible exact ih1 _ _ _)
   | (with_reducible exact ih2 _ _ _ _ _)
   | (with_reducible exact ih3 _ _ _ _ _ _ _)
   | (with_reducible exact ladderbackref30_Goes.mono _ _ _)
   | (with_reducible exact ladderbackref30_Jumps.mono _ _)
   | (with_reducible exact LeO.refl _)
   | (with_reducible exact LeO.none _)
   | (with_reducible refine LeO.ite ?_ ?_)
   | (with_reducible refine LeO.bind ?_ (fun _ => ?_))
   | exact ih0 _ _
   | exact ih1 _ _ _
   | exact ih2 _ _ _ _ _
   | exact ih3 _ _ _ _ _ _ _
   | exact ladderbackref30_Goes.mono _ _ _
   | exact ladderbackref30_Jumps.mono _ _
   | exact LeO.none _
   | refine LeO.ite ?_ ?_
   | refine LeO.bind ?_ (fun _ => ?_)
  ·
   intro y0 y1 y2 y3 y4
   unfold ladderbackref30_Met.l1
   repeat' first
   | (with_reducible exact ih0 _ _)
   | (with_reducible exact ih1 _ _ _)
   | (with_reducible exact ih2 _ _ _ _ _)
   | (with_reducible exact ih3 _ _ _ _ _ _ _)
   | (with_reducible exact ladderbackref30_Goes.mono _ _ _)
   | (with_reducible exact ladderbackref30_Jumps.mono _ _)
   | (with_reducible exact LeO.refl _)
   | (with_reducible exact LeO.none _)
   | (with_reducible refine LeO.ite ?_ ?_)
   | (with_reducible refine LeO.bind ?_ (fun _ => ?_))
   | exact ih0 _ _
   | exact ih1 _ _ _
   | exact ih2 _ _ _ _ _
   | exact ih3 _ _ _ _ _ _ _
   | exact ladderbackref30_Goes.mono _ _ _
   | exact ladderbackref30_Jumps.mono _ _
   | exact LeO.none _
   | refine LeO.ite ?_ ?_
   | refine LeO.bind ?_ (fun _ => ?_)
  ·
   intro y0 y1 y2 y3 y4 y5 y6
   unfold ladderbackref30_Met.l2
   repeat' first
   | (with_reducible exact ih0 _ _)
   | (with_reducible exact ih1 _ _ _)
   | (with_reducible exact ih2 _ _ _ _ _)
   | (with_reducible exact ih3 _ _ _ _ _ _ _)
   | (with_reducible exact ladderbackref30_Goes.mono _ _ _)
   | (with_reducible exact ladderbackref30_Jumps.mono _ _)
   | (with_reducible exact LeO.refl _)
   | (with_reducible exact LeO.none _)
   | (with_reducible refine LeO.ite ?_ ?_)
   | (with_reducible refine LeO.bind ?_ (fun _ => ?_))
   | exact ih0 _ _
   | exact ih1 _ _ _
   | exact ih2 _ _ _ _ _
   | exact ih3 _ _ _ _ _ _ _
   | exact ladderbackref30_Goes.mono _ _ _
   | exact ladderbackref30_Jumps.mono _ _
   | exact LeO.none _
   | refine LeO.ite ?_ ?_
   | refine LeO.bind ?_ (fun _ => ?_)
theorem ladderbackref30_Met.mono : ∀ a0 k, LeO (ladderbackref30_Met.f k a0) (ladderbackref30_Met.f (k + 1) a0) := by
 intro a0 k
 obtain ⟨ih0, ih1, ih2, ih3⟩ := ladderbackref30_Met.mono_l k
 unfold ladderbackref30_Met.f
 repeat' first
   | (with_reducible exact ih0 _ _)
   | (with_reducible exact ih1 _ _ _)
   | (with_reducible exact ih2 _ _ _ _ _)
   | (with_reducible exact ih3 _ _ _ _ _ _ _)
   | (with_reducible exact ladderbackref30_Goes.mono _ _ _)
   | (with_reducible exact ladderbackref30_Jumps.mono _ _)
   | (with_reducible exact LeO.refl _)
   | (with_reducible exact LeO.none _)
   | (with_reducible refine LeO.ite ?_ ?_)
   | (with_reducible refine LeO.bind ?_ (fun _ => ?_))
   | exact ih0 _ _
   | exact ih1 _ _ _
   | exact ih2 _ _ _ _ _
   | exact ih3 _ _ _ _ _ _ _
   | exact ladderbackref30_Goes.mono _ _ _
   | exact ladderbackref30_Jumps.mono _ _
   | exact LeO.none _
   | refine LeO.ite ?_ ?_
   | refine LeO.bind ?_ (fun _ => ?_)
set_option maxHeartbeats 8000000 in
set_option maxRecDepth 100000 in
theorem ladderbackref30_Met.calls (k : Nat) (A0 : Option Addr) (c0 : Nat) (l0 : List (S44)) (r : List Bool) (w : World) (hr0 : Kd.C k44 w A0 l0.length l0) (hc0 : l0.length ≤ c0) (h : ladderbackref30_Met.f k l0 = some r) :
  Calls Try.prog 21 #[.slice A0 l0.length c0] w fun e w' => ∃ v0_ : Value, e = .returned (v0_) ∧ Kd.R Kd.bool 4 w' w.heap.size (fun _ => True) v0_ r ∧ Below w.heap.size w w' := by
 have HR0 := Aside0.mk hr0
 have HC0 := Aside0.mk hc0
 clear hr0 hc0
 have HB := Aside0.mk (Below.refl w.heap.size w)
 have H : (if (l0.length : Int) = 0 then (ladderbackref30_Met.j0 k l0 true) else ((ladderbackref30_Jumps.f k l0).bind fun t247 => (ladderbackref30_Met.j0 k l0 (!t247)))) = some r := h
 clear h
 have HC2 := Aside0.mk H
 clear H
 go_enter Try.func21, Try.ntmps21
 go_upto_region 1 with (fail)
 go_cut [16] from 9 to 16 (fun v16 wc => ∃ (kq : Nat) (x16_1 : Bool), v16 = .bool x16_1 ∧ Aside0 (ladderbackref30_Met.j0 kq l0 x16_1 = some r) ∧ Aside0 (kq ≤ k) ∧ Aside0 (Below w.heap.size w wc))
 case first =>
  have H := HC2.out
  clear HC2
  by_cases c3 : (l0.length : Int) = 0
  ·
   rw [if_pos c3] at H
   have c3b0 : ((l0.length : Int) == 0) = true := beq_iff_eq.mpr c3
   have c3b1 : ((l0.length : Int) != 0) = false := bne_eq_false_iff_eq.mpr c3
   clear c3
   (first | rw [c3b0] | (simp only [i64_w, i32_w]; rw [c3b0]) | rw [c3b1] | skip)
   have H' := Aside0.mk H
   clear H
   go_wp2
   go_meet
   case rel => exact ⟨_, (true), p7_1, H', ⟨by first | omega | exact Nat.le_refl _⟩, ⟨by repeat (first | (with_reducible first | exact HB.out | apply below_alloc | apply pw_below_drewN | apply below_drew1) | exact HB.out)⟩⟩
  ·
   rw [if_neg c3] at H
   have c3b0 : ((l0.length : Int) == 0) = false := beq_eq_false_iff_ne.mpr c3
   have c3b1 : ((l0.length : Int) != 0) = true := bne_iff_ne.mpr c3
   have c3b2 : ¬ (l0 = []) := fun h_ => c3 (by rw [h_]; rfl)
   (first | rw [c3b0] | (simp only [i64_w, i32_w]; rw [c3b0]) | rw [c3b1] | skip)
   replace H := Option.bind_eq_some_iff.mp H
   obtain ⟨t247, A40, H⟩ := H
   replace H : (ladderbackref30_Met.j0 k l0 (!t247)) = some r := H
   have A4 := Aside0.mk A40
   clear A40
   have H' := Aside0.mk H
   clear H
   go_wp2_with (first | (go_at_call 58; (with_reducible refine (ladderbackref30_Jumps.calls k _ _ l0 t247 _ ?side1 ?side2 A4.out).mono ?_); (case side1 => repeat (first | exact (Kd.C_below HR0.out HB.out) | (with_reducible refine Kd.C_alloc ?_ _) | (with_reducible refine Kd.C_drewN ?_ _) | (with_reducible refine Kd.C_drew ?_))); (case side2 => exact HC0.out); rintro e w5 ⟨rfl, hb⟩; have n0_ := Aside0.mk (below_step p7_2 hb); clear HB; have HB := n0_; clear n0_; (try clear hb); (try clear hb2); (try clear hk); (try clear hi)))
   go_meet
   case rel => exact ⟨_, (!t247), p7_1, H', ⟨by first | omega | exact Nat.le_refl _⟩, ⟨by repeat (first | (with_reducible first | exact HB.out | apply below_alloc | apply pw_below_drewN | apply below_drew1) | exact HB.out)⟩⟩
 case rest =>
  clear HC2
  obtain ⟨kq, x16_1, rfl, HA, HJ1, HB⟩ := hcut
  cases kq with
  | zero => exact absurd HA.out (by simp [ladderbackref30_Met.j0])
  | succ kj1 =>
   have H := HA.out
   clear HA
   simp only [ladderbackref30_Met.j0] at H
   by_cases c6 : x16_1 = true
   ·
    subst c6
    have H1 : (some ([] : List Bool)) = some r := by rw [if_pos rfl] at H; exact H
    clear H
    have H := H1
    clear H1
    obtain rfl := Option.some.inj H
    go_wp2
    go_ret
    exact ⟨_, by first | rfl | (simp [errW_none, errW_some] <;> rfl) | (simp [*, errW_none, errW_some] <;> rfl), by first | exact Kd.R_nil _ _ _ _ _ | exact Kd.N_nil _ _ _ _ _ | exact Kd.V_nil _ _ _ _ _ | exact Kd.Q_nil _ _ _ _ _ | exact Kd.S_nil _ _ _ _ _, by repeat (first | (with_reducible first | exact HB.out | apply below_alloc | apply pw_below_drewN | apply below_drew1) | exact HB.out)⟩
   ·
    replace c6 := Bool.eq_false_iff.mpr c6
    subst c6
    have H1 : (if 0 ≤ (l0.length : Int) then (if ((l0.length : Int) : Int).toNat ≤ 281474976710656 then ((some (List.replicate ((l0.length : Int) : Int).toNat false : List Bool)).bind fun y248 => (if 0 < (y248.length : Int) then (ladderbackref30_Met.l0 kj1 l0 (y248.set (0 : Int).toNat true) 0) else (none))) else (none)) else (none)) = some r := by rw [if_neg (show ¬ (false = true) by decide)] at H; exact H
    clear H
    have H := H1
    clear H1
    by_cases c7 : 0 ≤ (l0.length : Int)
    ·
     rw [if_pos c7] at H
     have c7b0 := eq_true c7
     have c7b1 : decide (0 ≤ (l0.length : Int)) = true := decide_eq_true c7
     clear c7
     by_cases c8 : ((l0.length : Int) : Int).toNat ≤ 281474976710656
     ·
      rw [if_pos c8] at H
      have c8b0 := eq_true c8
      have c8b1 : decide (((l0.length : Int) : Int).toNat ≤ 281474976710656) = true := decide_eq_true c8
      clear c8
      obtain ⟨y248, hy248⟩ : ∃ y_ : List Bool, y_ = (List.replicate ((l0.length : Int) : Int).toNat false) := ⟨_, rfl⟩
      replace H : (if 0 < (y248.length : Int) then (ladderbackref30_Met.l0 kj1 l0 (y248.set (0 : Int).toNat true) 0) else (none)) = some r := by first | (rw [hy248]; with_reducible exact H) | (have H2_ := (Option.bind_some _ _).symm.trans H; rw [hy248]; with_reducible exact H2_) | (have H2_ := (Option.bind_some _ _).symm.trans H; with_reducible exact H2_) | with_reducible exact H | (rw [hy248]; exact H) | exact H
      have Ny248 := Aside0.mk hy248
      clear hy248
      by_cases c9 : 0 < (y248.length : Int)
      ·
       rw [if_pos c9] at H
       have c9b0 : decide (0 < (y248.length : Int)) = true := decide_eq_true c9
       have c9b1 : decide (0 < y248.length) = true := decide_eq_true (by omega)
       clear c9
       obtain ⟨y251, hy251⟩ : ∃ y_ : List Bool, y_ = (y248.set (0 : Int).toNat true) := ⟨_, rfl⟩
       replace H : (ladderbackref30_Met.l0 kj1 l0 y251 0) = some r := by first | (rw [hy251]; with_reducible exact H) | (have H2_ := (Option.bind_some _ _).symm.trans H; rw [hy251]; with_reducible exact H2_) | (have H2_ := (Option.bind_some _ _).symm.trans H; with_reducible exact H2_) | with_reducible exact H | (rw [hy251]; exact H) | exact H
       have Ny251 := Aside0.mk hy251
       clear hy251
       have H' := Aside0.mk H
       clear H
       go_wp2_with (first | ((with_reducible refine gate_dst (N := 19) rfl ?_); refine Kd.R_make Kd.bool _ 4 rfl (N := 19) rfl 25 _ _ rfl (l0.length : Int) rfl rfl Try.underlying25 (.bool false) 1 info4 rfl (by decide) (by omega) false (ok := fun _ => True) (okp := fun _ => True) rfl (fun _ hk => hk) trivial (of_decide_eq_true p7_0) (Nat.le_trans (Nat.mul_le_mul_right _ (of_decide_eq_true p7_0 : (l0.length : Int).toNat ≤ 281474976710656)) (by omega)) (Below.refl _ _) (Nat.le_refl _) ?_; intro v249 w11 ho12 hb hg_ hnew_; clear hg_ hnew_; (first | rw [← Ny248.out] at ho12 | (simp only [Int.reduceToNat] at ho12; rw [← Ny248.out] at ho12)); have n0_ := Aside0.mk (Kd.R_lower ho12 (below_size p7_2)); have n1_ := Aside0.mk (below_step p7_2 hb); clear HB; have HO250 := n0_; have HB := n1_; clear n0_ n1_; clear hb ho12; have p10 : 0 ≤ (0 : Int) := (by omega); have q10 : (0 : Int) < ((y248.length : Int) : Int) := of_decide_eq_true p7_0; have qi10 : (0 < y248.length) = True := eq_true (by omega); obtain ⟨go10, co10, eo10, gb10, gl10, cl10, HG10⟩ := Kd.R_form HO250.out (by omega); (first | cases eo10 | (injection eo10 with ea_ en_ ec_; (first | subst ea_ | (injection ea_ with ea_; subst ea_)); subst ec_; clear en_)); have GB10 := Aside0.mk gb10; have GG10 := Aside0.mk HG10; clear gb10 gl10 HG10; obtain ⟨hx10_0, hf10_0⟩ := Kd.R_celln false HO250.out (0 : Int) p10 q10; (try rw [show ((0 : Int)).toNat = 0 from rfl] at hx10_0); (try simp only [Nat.reduceMul, Nat.zero_mul, Nat.zero_add, Nat.reduceAdd] at hx10_0); (try rw [show ((0 : Int)).toNat = 0 from rfl] at hf10_0); (try simp only [Nat.reduceMul, Nat.zero_mul, Nat.zero_add, Nat.reduceAdd] at hf10_0); replace p10 := eq_true p10; replace q10 := eq_true q10; obtain ⟨hy13_, hz13_⟩ := Kd.R_celln false HO250.out (0 : Int) (by omega) (of_decide_eq_true p7_0); (try simp only [Int.reduceToNat, Int.toNat_zero, Int.toNat_ofNat, Nat.reduceMul, Nat.zero_mul, Nat.zero_add] at hy13_ hz13_); (try rw [show ((0 : Int)).toNat = 0 from rfl] at hy13_); (try rw [show ((0 : Int)).toNat = 0 from rfl] at hz13_); have HP13 := Kd.R_putg HO250.out (0 : Int) true) | ((with_reducible refine gate_store (t := 4) (p := 21) rfl ?_); refine store_event (t := 4) (p := 21) (v := ?vo_w14) (w1 := (w11.setCell ⟨go10, (0 : Int).toNat, none⟩ (.bool true))) ?hg ?ho ?hn ?hr ?_; (case ho => rfl); (case hg => rfl); (case hn => rfl); (case hr => first | (go_simp; done) | (go_simp; rfl)); intro w14 hw; have hg : w11.grownBy w14 (some go10) := (by rw [hw]; exact HP13.2); have hp_ : Kd.R Kd.bool 4 w14 w.heap.size (fun _ => True) (.slice (some ⟨go10, 0, none⟩) y248.length co10) y251 := (by rw [hw, Ny251.out]; exact HP13.1); clear HP13; have n0_ := Aside0.mk (hp_); have n1_ := Aside0.mk ((by rw [hw]; exact below_set (HB.out) GB10.out : Below w.heap.size w w14)); clear HO250; clear HB; have HO250 := n0_; have HB := n1_; clear n0_ n1_; clear hg hw hp_))
       go_loopg [4] kj1 (fun kq v4 w' => ∃ (x3_2 : List Bool) (x4_2 : Int), v4 = .int .i64 x4_2 ∧ Aside0 (ladderbackref30_Met.l0 kq l0 x3_2 x4_2 = some r) ∧ Aside0 (kq ≤ kj1) ∧ Aside0 (Kd.R Kd.bool 4 w' w.heap.size (fun _ => True) (.slice (some ⟨go10, 0, none⟩) y248.length co10) x3_2) ∧ Aside0 (Below w.heap.size w w'))
       case atStart => exact ⟨(y251), (0), p7_1, H', ⟨Nat.le_refl _⟩, ⟨by (with_reducible repeat (first | apply Kd.R_alloc | apply Kd.R_drewN | apply Kd.R_drew)); exact HO250.out⟩, ⟨by repeat (first | (with_reducible first | exact HB.out | apply below_alloc | apply pw_below_drewN | apply below_drew1) | exact HB.out)⟩⟩
       case round =>
        clear H'
        (try clear c6); (try clear c7); (try clear c7b0); (try clear c7b1); (try clear c8); (try clear c8b0); (try clear c8b1); (try clear c9); (try clear c9b0); (try clear c9b1); (try clear p10); (try clear q10); (try clear qi10); (try clear hx10_0)
        obtain ⟨x3_2, x4_2, rfl, HA, HK2, HO_3, HB⟩ := hrel
        have hl3_2 := (Kd.R_reads' HO_3.out).1
        rw [hl3_2] at HO_3
        (try simp only [hl3_2])
        cases gk with
        | zero => exact absurd HA.out (by simp [ladderbackref30_Met.l0])
        | succ k2 =>
         have H := HA.out
         clear HA
         simp only [ladderbackref30_Met.l0] at H
         by_cases c15 : x4_2 < (l0.length : Int)
         ·
          rw [if_pos c15] at H
          have c15b0 : decide (x4_2 < (l0.length : Int)) = true := decide_eq_true c15
          clear c15
          have H' := Aside0.mk H
          clear H
          go_wp2
          go_loopg [5, 6] k2 (fun kq v5 v6 w' => ∃ (x3_3 : List Bool) (x5_3 : Bool) (x6_3 : Int), v5 = .bool x5_3 ∧ v6 = .int .i64 x6_3 ∧ Aside0 (ladderbackref30_Met.l1 kq l0 x3_3 x4_2 x5_3 x6_3 = some r) ∧ Aside0 (kq ≤ k2) ∧ Aside0 (Kd.R Kd.bool 4 w' w.heap.size (fun _ => True) (.slice (some ⟨go10, 0, none⟩) x3_2.length co10) x3_3) ∧ Aside0 (Below w.heap.size w w'))
          case atStart => exact ⟨(x3_2), (false), (0), p7_1, p7_1, H', ⟨Nat.le_refl _⟩, ⟨by (try simp only [hl3_2]); (with_reducible repeat (first | apply Kd.R_alloc | apply Kd.R_drewN | apply Kd.R_drew)); exact HO_3.out⟩, ⟨by repeat (first | (with_reducible first | exact HB.out | apply below_alloc | apply pw_below_drewN | apply below_drew1) | exact HB.out)⟩⟩
          case round =>
           clear H'
           (try clear c15); (try clear c15b0)
           obtain ⟨x3_3, x5_3, x6_3, rfl, rfl, HA, HK3, HO_3, HB⟩ := hrel
           have hl3_3 := (Kd.R_reads' HO_3.out).1
           rw [hl3_3] at HO_3
           (try simp only [hl3_3])
           cases gk with
           | zero => exact absurd HA.out (by simp [ladderbackref30_Met.l1])
           | succ k3 =>
            have H := HA.out
            clear HA
            simp only [ladderbackref30_Met.l1] at H
            by_cases c16 : x6_3 < (l0.length : Int)
            ·
             rw [if_pos c16] at H
             have c16b0 : decide (x6_3 < (l0.length : Int)) = true := decide_eq_true c16
             clear c16
             by_cases c17 : 0 ≤ x6_3
             ·
              rw [if_pos c17] at H
              have c17b0 : decide (0 ≤ x6_3) = true := decide_eq_true c17
              clear c17
              by_cases c18 : x6_3 < (x3_3.length : Int)
              ·
               rw [if_pos c18] at H
               have c18b0 : decide (x6_3 < (x3_3.length : Int)) = true := decide_eq_true c18
               clear c18
               obtain ⟨bq19, hbq19⟩ : ∃ b_ : Bool, b_ = (rdOf false x3_3 x6_3) := ⟨_, rfl⟩
               replace H : (if bq19 = true then ((ladderbackref30_Goes.f k3 l0 x6_3).bind fun t253 => (ladderbackref30_Met.l2 k3 l0 x3_3 x4_2 x5_3 x6_3 t253 0)) else (ladderbackref30_Met.l1 k3 l0 x3_3 x4_2 x5_3 (wrap64 (x6_3 + 1)))) = some r := by rw [← hbq19] at H; exact H
               have Nbq19 := Aside0.mk hbq19
               clear hbq19
               (try rw [← Nbq19.out])
               by_cases c20 : bq19 = true
               ·
                subst c20
                have H1 : ((ladderbackref30_Goes.f k3 l0 x6_3).bind fun t253 => (ladderbackref30_Met.l2 k3 l0 x3_3 x4_2 x5_3 x6_3 t253 0)) = some r := by rw [if_pos rfl] at H; exact H
                clear H
                have H := H1
                clear H1
                replace H := Option.bind_eq_some_iff.mp H
                obtain ⟨t253, A210, H⟩ := H
                replace H : (ladderbackref30_Met.l2 k3 l0 x3_3 x4_2 x5_3 x6_3 t253 0) = some r := H
                have A21 := Aside0.mk A210
                clear A210
                have H' := Aside0.mk H
                clear H
                have p252 : 0 ≤ (x6_3 : Int) := of_decide_eq_true p7_0
                have q252 : x6_3 < (x3_3.length : Int) := of_decide_eq_true p7_0
                obtain ⟨ad252, e252, hx252_0⟩ := Kd.at_bool (Kd.R_reads' HO_3.out).2.2 x6_3 p252 q252
                (try rw [← Nbq19.out] at hx252_0)
                obtain rfl : (⟨go10, 0, none⟩ : Addr) = ad252 := (by injection e252)
                (first | simp only [add_plain] at hx252_0 | simp only [add_at] at hx252_0 | simp only [Addr.add, Nat.zero_add] at hx252_0 | skip)
                replace p252 := eq_true p252
                replace q252 := eq_true q252
                go_wp2_with (first | ((with_reducible refine gate_callee (f := 24) rfl ?_); refine goesL_ (some 41) rfl rfl Try.func24 (by kernel_rfl) rfl #[.slice A0 l0.length c0, .int .i64 x6_3] rfl (by (try simp only [List.map_toArray, List.map_cons, List.map_nil]); first | done | rfl | (simp only [List.length_drop, List.length_take]; rfl)) ?_; (with_reducible refine (ladderbackref30_Goes.calls k3 _ _ l0 x6_3 t253 _ ?side1 ?side2 A21.out).mono ?_); (case side1 => repeat (first | exact (Kd.C_below HR0.out HB.out) | (with_reducible refine Kd.C_alloc ?_ _) | (with_reducible refine Kd.C_drewN ?_ _) | (with_reducible refine Kd.C_drew ?_))); (case side2 => exact HC0.out); rintro e w22 ⟨v254, rfl, ho0, hb⟩; refine ⟨_, rfl, ?_⟩; have n0_ := Aside0.mk (Kd.R_below (by (with_reducible repeat (first | apply Kd.R_alloc | apply Kd.R_drewN | apply Kd.R_drew)); exact HO_3.out) hb); have n1_ := Aside0.mk (Kd.R_lower ho0 (below_size p7_2)); have n2_ := Aside0.mk (below_step p7_2 hb); clear HO_3; clear HB; have HO_3 := n0_; have HO255 := n1_; have HB := n2_; clear n0_ n1_ n2_; (try clear hb); (try clear hb2); (try clear hk); (try clear hi); (try clear ho0)))
                go_loopg [5, 8] k3 (fun kq v5 v8 w' => ∃ (x3_4 : List Bool) (x5_4 : Bool) (x8_4 : Int), v5 = .bool x5_4 ∧ v8 = .int .i64 x8_4 ∧ Aside0 (ladderbackref30_Met.l2 kq l0 x3_4 x4_2 x5_4 x6_3 t253 x8_4 = some r) ∧ Aside0 (kq ≤ k3) ∧ Aside0 (Kd.R Kd.bool 4 w' w.heap.size (fun _ => True) (.slice (some ⟨go10, 0, none⟩) x3_3.length co10) x3_4) ∧ Aside0 (Kd.R (Kd.int .i64) 3 w' w.heap.size (fun _ => True) v254 t253) ∧ Aside0 (Below w.heap.size w w'))
                case atStart => exact ⟨(x3_3), (x5_3), (0), p7_1, p7_1, H', ⟨Nat.le_refl _⟩, ⟨by (try simp only [hl3_2]); (try simp only [hl3_3]); (with_reducible repeat (first | apply Kd.R_alloc | apply Kd.R_drewN | apply Kd.R_drew)); exact HO_3.out⟩, ⟨by (try simp only [hl3_2]); (try simp only [hl3_3]); (with_reducible repeat (first | apply Kd.R_alloc | apply Kd.R_drewN | apply Kd.R_drew)); exact HO255.out⟩, ⟨by repeat (first | (with_reducible first | exact HB.out | apply below_alloc | apply pw_below_drewN | apply below_drew1) | exact HB.out)⟩⟩
                case round =>
                 clear H'
                 (try clear c16); (try clear c16b0); (try clear c17); (try clear c17b0); (try clear c18); (try clear c18b0); (try clear c20); (try clear hx252_0); (try clear p252); (try clear q252)
                 obtain ⟨x3_4, x5_4, x8_4, rfl, rfl, HA, HK4, HO_3, HO_7, HB⟩ := hrel
                 have hl3_4 := (Kd.R_reads' HO_3.out).1
                 rw [hl3_4] at HO_3
                 (try simp only [hl3_4])
                 (try simp only [hl3_4] at HO_7)
                 cases gk with
                 | zero => exact absurd HA.out (by simp [ladderbackref30_Met.l2])
                 | succ k4 =>
                  have H := HA.out
                  clear HA
                  simp only [ladderbackref30_Met.l2] at H
                  by_cases c23 : x8_4 < (t253.length : Int)
                  ·
                   rw [if_pos c23] at H
                   have c23b0 : decide (x8_4 < (t253.length : Int)) = true := decide_eq_true c23
                   clear c23
                   by_cases c24 : 0 ≤ x8_4
                   ·
                    rw [if_pos c24] at H
                    have c24b0 : decide (0 ≤ x8_4) = true := decide_eq_true c24
                    clear c24
                    by_cases c25 : (rd t253 x8_4) ≥ (l0.length : Int)
                    ·
                     rw [if_pos c25] at H
                     have c25b0 : decide ((l0.length : Int) ≤ (rd t253 x8_4)) = true := decide_eq_true c25
                     clear c25
                     obtain rfl := Option.some.inj H
                     obtain ⟨Ao26, co26, eo26⟩ := Kd.R_slice HO_7.out
                     subst eo26
                     have p256 : 0 ≤ (x8_4 : Int) := of_decide_eq_true p7_0
                     have q256 : x8_4 < (t253.length : Int) := of_decide_eq_true p7_0
                     obtain ⟨ad256, e256, hx256_0⟩ := Kd.at_int (Kd.R_reads' HO_7.out).2.2 x8_4 p256 q256
                     cases e256
                     replace p256 := eq_true p256
                     replace q256 := eq_true q256
                     go_wp2
                     go_ret
                     exact ⟨_, by first | rfl | (simp [errW_none, errW_some] <;> rfl) | (simp [*, errW_none, errW_some] <;> rfl), by first | exact Kd.R_nil _ _ _ _ _ | exact Kd.N_nil _ _ _ _ _ | exact Kd.V_nil _ _ _ _ _ | exact Kd.Q_nil _ _ _ _ _ | exact Kd.S_nil _ _ _ _ _, by repeat (first | (with_reducible first | exact HB.out | apply below_alloc | apply pw_below_drewN | apply below_drew1) | exact HB.out)⟩
                    ·
                     rw [if_neg c25] at H
                     have c25b0 : decide ((l0.length : Int) ≤ (rd t253 x8_4)) = false := decide_eq_false c25
                     clear c25
                     by_cases c27 : x5_4 = true
                     ·
                      subst c27
                      have H1 : (if 0 ≤ (rd t253 x8_4) then (if (rd t253 x8_4) < (x3_4.length : Int) then (ladderbackref30_Met.l2 k4 l0 (x3_4.set ((rd t253 x8_4) : Int).toNat true) x4_2 true x6_3 t253 (wrap64 (x8_4 + 1))) else (none)) else (none)) = some r := by rw [if_pos rfl] at H; exact H
                      clear H
                      have H := H1
                      clear H1
                      by_cases c28 : 0 ≤ (rd t253 x8_4)
                      ·
                       rw [if_pos c28] at H
                       have c28b0 : decide (0 ≤ (rd t253 x8_4)) = true := decide_eq_true c28
                       clear c28
                       by_cases c29 : (rd t253 x8_4) < (x3_4.length : Int)
                       ·
                        rw [if_pos c29] at H
                        have c29b0 : decide ((rd t253 x8_4) < (x3_4.length : Int)) = true := decide_eq_true c29
                        clear c29
                        obtain ⟨y258, hy258⟩ : ∃ y_ : List Bool, y_ = (x3_4.set ((rd t253 x8_4) : Int).toNat true) := ⟨_, rfl⟩
                        replace H : (ladderbackref30_Met.l2 k4 l0 y258 x4_2 true x6_3 t253 (wrap64 (x8_4 + 1))) = some r := by first | (rw [hy258]; with_reducible exact H) | (have H2_ := (Option.bind_some _ _).symm.trans H; rw [hy258]; with_reducible exact H2_) | (have H2_ := (Option.bind_some _ _).symm.trans H; with_reducible exact H2_) | with_reducible exact H | (rw [hy258]; exact H) | exact H
                        have Ny258 := Aside0.mk hy258
                        clear hy258
                        have H' := Aside0.mk H
                        clear H
                        obtain ⟨Ao31, co31, eo31⟩ := Kd.R_slice HO_7.out
                        subst eo31
                        have p256 : 0 ≤ (x8_4 : Int) := of_decide_eq_true p7_0
                        have q256 : x8_4 < (t253.length : Int) := of_decide_eq_true p7_0
                        obtain ⟨ad256, e256, hx256_0⟩ := Kd.at_int (Kd.R_reads' HO_7.out).2.2 x8_4 p256 q256
                        cases e256
                        replace p256 := eq_true p256
                        replace q256 := eq_true q256
                        have p257 : 0 ≤ (x8_4 : Int) := of_decide_eq_true p7_0
                        have q257 : x8_4 < (t253.length : Int) := of_decide_eq_true p7_0
                        obtain ⟨ad257, e257, hx257_0⟩ := Kd.at_int (Kd.R_reads' HO_7.out).2.2 x8_4 p257 q257
                        obtain rfl : ad256 = ad257 := (by injection e257)
                        replace p257 := eq_true p257
                        replace q257 := eq_true q257
                        have p30 : 0 ≤ ((rd t253 x8_4) : Int) := of_decide_eq_true p7_0
                        have q30 : ((rd t253 x8_4) : Int) < ((x3_4.length : Int) : Int) := of_decide_eq_true p7_0
                        obtain ⟨hx30_0, hf30_0⟩ := Kd.R_celln false HO_3.out ((rd t253 x8_4) : Int) p30 q30
                        replace p30 := eq_true p30
                        replace q30 := eq_true q30
                        have HP32 := Kd.R_putg HO_3.out ((rd t253 x8_4) : Int) true
                        go_wp2_with (first | ((with_reducible refine gate_store (t := 4) (p := 71) rfl ?_); refine store_event (t := 4) (p := 71) (v := ?vo_w33) (w1 := (wr.setCell ⟨go10, ((rd t253 x8_4) : Int).toNat, none⟩ (.bool true))) ?hg ?ho ?hn ?hr ?_; (case ho => rfl); (case hg => rfl); (case hn => rfl); (case hr => first | (go_simp; done) | (go_simp; rfl)); intro w33 hw; have hg : wr.grownBy w33 (some go10) := (by rw [hw]; exact HP32.2); have hp_ : Kd.R Kd.bool 4 w33 w.heap.size (fun _ => True) (.slice (some ⟨go10, 0, none⟩) x3_4.length co10) y258 := (by rw [hw, Ny258.out]; exact HP32.1); clear HP32; have n0_ := Aside0.mk (hp_); have n1_ := Aside0.mk (Kd.R_over' (v := (.slice (some ⟨go10, 0, none⟩) x3_4.length co10)) (by (with_reducible repeat (first | apply Kd.R_alloc | apply Kd.R_drewN | apply Kd.R_drew)); exact HO_7.out) (Kd.R_typed HO_3.out) (by decide) hg); have n2_ := Aside0.mk ((by rw [hw]; exact below_set (HB.out) GB10.out : Below w.heap.size w w33)); clear HO_3; clear HO_7; clear HB; have HO_3 := n0_; have HO_7 := n1_; have HB := n2_; clear n0_ n1_ n2_; clear hg hw hp_))
                        (try simp only [← hl3_4])
                        go_roundg k4
                        case measure => have := HJ1.out; have := HK2.out; have := HK3.out; have := HK4.out; omega
                        case rel => exact ⟨(y258), (true), (wrap64 (x8_4 + 1)), p7_1, p7_1, H', ⟨by have := HJ1.out; have := HK2.out; have := HK3.out; have := HK4.out; omega⟩, ⟨by (try simp only [hl3_2]); (try simp only [hl3_3]); (try simp only [hl3_4]); (with_reducible repeat (first | apply Kd.R_alloc | apply Kd.R_drewN | apply Kd.R_drew)); exact HO_3.out⟩, ⟨by (try simp only [hl3_2]); (try simp only [hl3_3]); (try simp only [hl3_4]); (with_reducible repeat (first | apply Kd.R_alloc | apply Kd.R_drewN | apply Kd.R_drew)); exact HO_7.out⟩, ⟨by repeat (first | (with_reducible first | exact HB.out | apply below_alloc | apply pw_below_drewN | apply below_drew1) | exact HB.out)⟩⟩
                       ·
                        rw [if_neg c29] at H
                        exact absurd H (by simp)
                      ·
                       rw [if_neg c28] at H
                       exact absurd H (by simp)
                     ·
                      replace c27 := Bool.eq_false_iff.mpr c27
                      subst c27
                      have H1 : (if 0 ≤ (rd t253 x8_4) then (if (rd t253 x8_4) < (x3_4.length : Int) then (ladderbackref30_Met.l2 k4 l0 (x3_4.set ((rd t253 x8_4) : Int).toNat true) x4_2 (!(rdOf false x3_4 (rd t253 x8_4))) x6_3 t253 (wrap64 (x8_4 + 1))) else (none)) else (none)) = some r := by rw [if_neg (show ¬ (false = true) by decide)] at H; exact H
                      clear H
                      have H := H1
                      clear H1
                      by_cases c34 : 0 ≤ (rd t253 x8_4)
                      ·
                       rw [if_pos c34] at H
                       have c34b0 : decide (0 ≤ (rd t253 x8_4)) = true := decide_eq_true c34
                       clear c34
                       by_cases c35 : (rd t253 x8_4) < (x3_4.length : Int)
                       ·
                        rw [if_pos c35] at H
                        have c35b0 : decide ((rd t253 x8_4) < (x3_4.length : Int)) = true := decide_eq_true c35
                        clear c35
                        obtain ⟨y262, hy262⟩ : ∃ y_ : List Bool, y_ = (x3_4.set ((rd t253 x8_4) : Int).toNat true) := ⟨_, rfl⟩
                        replace H : (ladderbackref30_Met.l2 k4 l0 y262 x4_2 (!(rdOf false x3_4 (rd t253 x8_4))) x6_3 t253 (wrap64 (x8_4 + 1))) = some r := by first | (rw [hy262]; with_reducible exact H) | (have H2_ := (Option.bind_some _ _).symm.trans H; rw [hy262]; with_reducible exact H2_) | (have H2_ := (Option.bind_some _ _).symm.trans H; with_reducible exact H2_) | with_reducible exact H | (rw [hy262]; exact H) | exact H
                        have Ny262 := Aside0.mk hy262
                        clear hy262
                        have H' := Aside0.mk H
                        clear H
                        obtain ⟨Ao37, co37, eo37⟩ := Kd.R_slice HO_7.out
                        subst eo37
                        have p256 : 0 ≤ (x8_4 : Int) := of_decide_eq_true p7_0
                        have q256 : x8_4 < (t253.length : Int) := of_decide_eq_true p7_0
                        obtain ⟨ad256, e256, hx256_0⟩ := Kd.at_int (Kd.R_reads' HO_7.out).2.2 x8_4 p256 q256
                        cases e256
                        replace p256 := eq_true p256
                        replace q256 := eq_true q256
                        have p259 : 0 ≤ (x8_4 : Int) := of_decide_eq_true p7_0
                        have q259 : x8_4 < (t253.length : Int) := of_decide_eq_true p7_0
                        obtain ⟨ad259, e259, hx259_0⟩ := Kd.at_int (Kd.R_reads' HO_7.out).2.2 x8_4 p259 q259
                        obtain rfl : ad256 = ad259 := (by injection e259)
                        replace p259 := eq_true p259
                        replace q259 := eq_true q259
                        have p260 : 0 ≤ ((rd t253 x8_4) : Int) := of_decide_eq_true p7_0
                        have q260 : (rd t253 x8_4) < (x3_4.length : Int) := of_decide_eq_true p7_0
                        obtain ⟨ad260, e260, hx260_0⟩ := Kd.at_bool (Kd.R_reads' HO_3.out).2.2 (rd t253 x8_4) p260 q260
                        (try rw [← Nbq19.out] at hx260_0)
                        obtain rfl : (⟨go10, 0, none⟩ : Addr) = ad260 := (by injection e260)
                        (first | simp only [add_plain] at hx260_0 | simp only [add_at] at hx260_0 | simp only [Addr.add, Nat.zero_add] at hx260_0 | skip)
                        replace p260 := eq_true p260
                        replace q260 := eq_true q260
                        have p261 : 0 ≤ (x8_4 : Int) := of_decide_eq_true p7_0
                        have q261 : x8_4 < (t253.length : Int) := of_decide_eq_true p7_0
                        obtain ⟨ad261, e261, hx261_0⟩ := Kd.at_int (Kd.R_reads' HO_7.out).2.2 x8_4 p261 q261
                        obtain rfl : ad256 = ad261 := (by injection e261)
                        replace p261 := eq_true p261
                        replace q261 := eq_true q261
                        have p36 : 0 ≤ ((rd t253 x8_4) : Int) := of_decide_eq_true p7_0
                        have q36 : ((rd t253 x8_4) : Int) < ((x3_4.length : Int) : Int) := of_decide_eq_true p7_0
                        obtain ⟨hx36_0, hf36_0⟩ := Kd.R_celln false HO_3.out ((rd t253 x8_4) : Int) p36 q36
                        replace p36 := eq_true p36
                        replace q36 := eq_true q36
                        have HP38 := Kd.R_putg HO_3.out ((rd t253 x8_4) : Int) true
                        go_wp2_with (first | ((with_reducible refine gate_store (t := 4) (p := 71) rfl ?_); refine store_event (t := 4) (p := 71) (v := ?vo_w39) (w1 := (wr.setCell ⟨go10, ((rd t253 x8_4) : Int).toNat, none⟩ (.bool true))) ?hg ?ho ?hn ?hr ?_; (case ho => rfl); (case hg => rfl); (case hn => rfl); (case hr => first | (go_simp; done) | (go_simp; rfl)); intro w39 hw; have hg : wr.grownBy w39 (some go10) := (by rw [hw]; exact HP38.2); have hp_ : Kd.R Kd.bool 4 w39 w.heap.size (fun _ => True) (.slice (some ⟨go10, 0, none⟩) x3_4.length co10) y262 := (by rw [hw, Ny262.out]; exact HP38.1); clear HP38; have n0_ := Aside0.mk (hp_); have n1_ := Aside0.mk (Kd.R_over' (v := (.slice (some ⟨go10, 0, none⟩) x3_4.length co10)) (by (with_reducible repeat (first | apply Kd.R_alloc | apply Kd.R_drewN | apply Kd.R_drew)); exact HO_7.out) (Kd.R_typed HO_3.out) (by decide) hg); have n2_ := Aside0.mk ((by rw [hw]; exact below_set (HB.out) GB10.out : Below w.heap.size w w39)); clear HO_3; clear HO_7; clear HB; have HO_3 := n0_; have HO_7 := n1_; have HB := n2_; clear n0_ n1_ n2_; clear hg hw hp_))
                        (try simp only [← hl3_4])
                        go_roundg k4
                        case measure => have := HJ1.out; have := HK2.out; have := HK3.out; have := HK4.out; omega
                        case rel => exact ⟨(y262), (!(rdOf false x3_4 (rd t253 x8_4))), (wrap64 (x8_4 + 1)), p7_1, p7_1, H', ⟨by have := HJ1.out; have := HK2.out; have := HK3.out; have := HK4.out; omega⟩, ⟨by (try simp only [hl3_2]); (try simp only [hl3_3]); (try simp only [hl3_4]); (with_reducible repeat (first | apply Kd.R_alloc | apply Kd.R_drewN | apply Kd.R_drew)); exact HO_3.out⟩, ⟨by (try simp only [hl3_2]); (try simp only [hl3_3]); (try simp only [hl3_4]); (with_reducible repeat (first | apply Kd.R_alloc | apply Kd.R_drewN | apply Kd.R_drew)); exact HO_7.out⟩, ⟨by repeat (first | (with_reducible first | exact HB.out | apply below_alloc | apply pw_below_drewN | apply below_drew1) | exact HB.out)⟩⟩
                       ·
                        rw [if_neg c35] at H
                        exact absurd H (by simp)
                      ·
                       rw [if_neg c34] at H
                       exact absurd H (by simp)
                   ·
                    rw [if_neg c24] at H
                    exact absurd H (by simp)
                  ·
                   rw [if_neg c23] at H
                   have c23b0 : decide (x8_4 < (t253.length : Int)) = false := decide_eq_false c23
                   clear c23
                   have H' := Aside0.mk H
                   clear H
                   obtain ⟨Ao40, co40, eo40⟩ := Kd.R_slice HO_7.out
                   subst eo40
                   go_wp2
                   (try simp only [← hl3_3, ← hl3_4])
                   go_roundg k4
                   case measure => have := HJ1.out; have := HK2.out; have := HK3.out; have := HK4.out; omega
                   case rel => exact ⟨(x3_4), (x5_4), (wrap64 (x6_3 + 1)), p7_1, p7_1, H', ⟨by have := HJ1.out; have := HK2.out; have := HK3.out; have := HK4.out; omega⟩, ⟨by (try simp only [hl3_2]); (try simp only [hl3_3]); (try simp only [hl3_4]); (with_reducible repeat (first | apply Kd.R_alloc | apply Kd.R_drewN | apply Kd.R_drew)); exact HO_3.out⟩, ⟨by repeat (first | (with_reducible first | exact HB.out | apply below_alloc | apply pw_below_drewN | apply below_drew1) | exact HB.out)⟩⟩
               ·
                replace c20 := Bool.eq_false_iff.mpr c20
                subst c20
                have H1 : (ladderbackref30_Met.l1 k3 l0 x3_3 x4_2 x5_3 (wrap64 (x6_3 + 1))) = some r := by rw [if_neg (show ¬ (false = true) by decide)] at H; exact H
                clear H
                have H := H1
                clear H1
                have H' := Aside0.mk H
                clear H
                have p252 : 0 ≤ (x6_3 : Int) := of_decide_eq_true p7_0
                have q252 : x6_3 < (x3_3.length : Int) := of_decide_eq_true p7_0
                obtain ⟨ad252, e252, hx252_0⟩ := Kd.at_bool (Kd.R_reads' HO_3.out).2.2 x6_3 p252 q252
                (try rw [← Nbq19.out] at hx252_0)
                obtain rfl : (⟨go10, 0, none⟩ : Addr) = ad252 := (by injection e252)
                (first | simp only [add_plain] at hx252_0 | simp only [add_at] at hx252_0 | simp only [Addr.add, Nat.zero_add] at hx252_0 | skip)
                replace p252 := eq_true p252
                replace q252 := eq_true q252
                go_wp2
                (try simp only [← hl3_3])
                go_roundg k3
                case measure => have := HJ1.out; have := HK2.out; have := HK3.out; omega
                case rel => exact ⟨(x3_3), (x5_3), (wrap64 (x6_3 + 1)), p7_1, p7_1, H', ⟨by have := HJ1.out; have := HK2.out; have := HK3.out; omega⟩, ⟨by (try simp only [hl3_2]); (try simp only [hl3_3]); (with_reducible repeat (first | apply Kd.R_alloc | apply Kd.R_drewN | apply Kd.R_drew)); exact HO_3.out⟩, ⟨by repeat (first | (with_reducible first | exact HB.out | apply below_alloc | apply pw_below_drewN | apply below_drew1) | exact HB.out)⟩⟩
              ·
               rw [if_neg c18] at H
               exact absurd H (by simp)
             ·
              rw [if_neg c17] at H
              exact absurd H (by simp)
            ·
             rw [if_neg c16] at H
             have c16b0 : decide (x6_3 < (l0.length : Int)) = false := decide_eq_false c16
             clear c16
             by_cases c41 : x5_3 = true
             ·
              subst c41
              have H1 : (ladderbackref30_Met.l0 k3 l0 x3_3 (wrap64 (x4_2 + 1))) = some r := by rw [if_pos rfl] at H; exact H
              clear H
              have H := H1
              clear H1
              have H' := Aside0.mk H
              clear H
              go_wp2
              (try simp only [← hl3_2, ← hl3_3])
              go_roundg k3
              case measure => have := HJ1.out; have := HK2.out; have := HK3.out; omega
              case rel => exact ⟨(x3_3), (wrap64 (x4_2 + 1)), p7_1, H', ⟨by have := HJ1.out; have := HK2.out; have := HK3.out; omega⟩, ⟨by (try simp only [hl3_2]); (try simp only [hl3_3]); (with_reducible repeat (first | apply Kd.R_alloc | apply Kd.R_drewN | apply Kd.R_drew)); exact HO_3.out⟩, ⟨by repeat (first | (with_reducible first | exact HB.out | apply below_alloc | apply pw_below_drewN | apply below_drew1) | exact HB.out)⟩⟩
             ·
              replace c41 := Bool.eq_false_iff.mpr c41
              subst c41
              have H1 : (some x3_3) = some r := by rw [if_neg (show ¬ (false = true) by decide)] at H; exact H
              clear H
              have H := H1
              clear H1
              obtain rfl := Option.some.inj H
              go_wp2
              go_ret
              exact ⟨_, by first | rfl | (simp [errW_none, errW_some] <;> rfl) | (simp [*, errW_none, errW_some] <;> rfl), by (with_reducible repeat (first | apply Kd.R_alloc | apply Kd.R_drewN | apply Kd.R_drew)); exact HO_3.out, by repeat (first | (with_reducible first | exact HB.out | apply below_alloc | apply pw_below_drewN | apply below_drew1) | exact HB.out)⟩
         ·
          rw [if_neg c15] at H
          have c15b0 : decide (x4_2 < (l0.length : Int)) = false := decide_eq_false c15
          clear c15
          obtain rfl := Option.some.inj H
          go_wp2
          go_ret
          exact ⟨_, by first | rfl | (simp [errW_none, errW_some] <;> rfl) | (simp [*, errW_none, errW_some] <;> rfl), by (with_reducible repeat (first | apply Kd.R_alloc | apply Kd.R_drewN | apply Kd.R_drew)); exact HO_3.out, by repeat (first | (with_reducible first | exact HB.out | apply below_alloc | apply pw_below_drewN | apply below_drew1) | exact HB.out)⟩
      ·
       rw [if_neg c9] at H
       exact absurd H (by simp)
     ·
      rw [if_neg c8] at H
      exact absurd H (by simp)
    ·
     rw [if_neg c7] at H
     exact absurd H (by simp)

/-! ### ladderbackref30_Far: function 63 -/
def ladderbackref30_Far.f (a0 : Int) : Option (Bool) := if a0 ≥ 30 then (if a0 ≤ 32 then (some true) else (some (a0 == 34))) else (some (a0 == 34))
set_option maxHeartbeats 8000000 in
set_option maxRecDepth 100000 in
theorem ladderbackref30_Far.calls (a0 : Int) (r : Bool) (w : World) (h : ladderbackref30_Far.f a0 = some r) :
  Calls Try.prog 63 #[.int .i64 a0] w fun e w' => e = .returned (.bool r) ∧ Drawn0 w w' := by
 have H : (if a0 ≥ 30 then (if a0 ≤ 32 then (some true) else (some (a0 == 34))) else (some (a0 == 34))) = some r := h
 clear h
 by_cases c2 : a0 ≥ 30
 ·
  rw [if_pos c2] at H
  have c2b0 : decide (30 ≤ a0) = true := decide_eq_true c2
  clear c2
  by_cases c3 : a0 ≤ 32
  ·
   rw [if_pos c3] at H
   have c3b0 : decide (a0 ≤ 32) = true := decide_eq_true c3
   clear c3
   obtain rfl := Option.some.inj H
   go_enter Try.func63, Try.ntmps63
   go_wp2
   go_ret
   exact ⟨by first | rfl | (simp; done) | (simp [*]; done), by repeat (first | exact Drawn0.refl _ | apply Drawn0.step)⟩
  ·
   rw [if_neg c3] at H
   have c3b0 : decide (a0 ≤ 32) = false := decide_eq_false c3
   clear c3
   obtain rfl := Option.some.inj H
   go_enter Try.func63, Try.ntmps63
   go_wp2
   go_ret
   exact ⟨by first | rfl | (simp; done) | (simp [*]; done), by repeat (first | exact Drawn0.refl _ | apply Drawn0.step)⟩
 ·
  rw [if_neg c2] at H
  have c2b0 : decide (30 ≤ a0) = false := decide_eq_false c2
  clear c2
  obtain rfl := Option.some.inj H
  go_enter Try.func63, Try.ntmps63
  go_wp2
  go_ret
  exact ⟨by first | rfl | (simp; done) | (simp [*]; done), by repeat (first | exact Drawn0.refl _ | apply Drawn0.step)⟩

end Go.Proofs.Ytfiffhcpgojkhaa.QFlowBlocks
