/- (bits.Set).copied by hand, over the printed New. No condition. -/
import Derived.Test.YtfiffhcpgojkhaaDoorQLoopNestsx9
import Derived.Test.YtfiffhcpgojkhaaDoorDomE
namespace Go.Proofs.YtfiffhcpgojkhaaDoor.QLoopNests
open Go.RowKit Go.Proofs.YtfiffhcpgojkhaaDoor Go.Proofs.YtfiffhcpgojkhaaDoorW.PrintWords Go.Proofs.YtfiffhcpgojkhaaDoorW.PrintLast Go.Proofs.YtfiffhcpgojkhaaDoorW.PrintMore
set_option linter.unusedVariables false
set_option linter.unusedSimpArgs false
def bits_Set_copied.f (a0_0 : Int) (l0_1 : List Int) (a1 : Int) : Option (Int × List Int) := (bits_New.f a1).bind fun r => some (r.1, l0_1.take (min l0_1.length r.2.length) ++ r.2.drop (min l0_1.length r.2.length))
theorem keep_box {W : World} {b i base : Nat} {t e : TypeId} {cs : Array Value} {u v : Value} {ok : Nat → Prop} {xs : List Int} (h : Kd.R (Kd.int .u64) e W base ok v xs) (hb : W.heap[b]? = some (.cells cs t (0, 0))) (ht : e ≠ t) : Kd.R (Kd.int .u64) e (W.setCell ⟨b, i, none⟩ u) base ok v xs :=
  Kd.R_over' (v := .slice (some ⟨b, 0, none⟩) 1 1) h (fun k hk => by cases hk; exact ⟨_, hb⟩) (by intro q hq; simp only [List.mem_cons] at hq; rcases hq with rfl | hq; exact ht; cases hq) ⟨rfl, rfl, rfl, by simp [World.setCell], fun k _ hk => Below.heap_setCell _ _ _ k (fun e => hk (by rw [e]; rfl))⟩
theorem still_box {W w1 : World} {b base : Nat} {t e : TypeId} {cs : Array Value} {v : Value} {ok : Nat → Prop} {xs : List Int} (hv : W.heap[b]? = some (.cells cs t (0, 0))) (ht : t ≠ e) (hr : Kd.R (Kd.int .u64) e W base ok v xs) (hg : W.grownBy w1 v.ownBlock) : w1.heap[b]? = some (.cells cs t (0, 0)) := by
  refine blk_grown hv hg ?_
  intro he
  obtain ⟨cs2, hc⟩ := Kd.R_typed hr b he.symm
  exact DomA.ne_of_type hv hc ht rfl
set_option maxHeartbeats 8000000 in
set_option maxRecDepth 100000 in
theorem bits_Set_copied.calls (a0_0 : Int) (A0_1 : Option Addr) (c0_1 : Nat) (l0_1 : List Int) (a1 : Int) (r1 : Int) (r2 : List Int) (w : World) (hr0_1 : Kd.C (Kd.int .u64) w A0_1 l0_1.length l0_1) (hc0_1 : l0_1.length ≤ c0_1) (h : bits_Set_copied.f a0_0 l0_1 a1 = some (r1, r2)) :
    Calls Tryd.prog 58 #[.agg #[.int .i64 a0_0, .slice A0_1 l0_1.length c0_1], .int .i64 a1] w fun e w' => ∃ v1_ : Value, e = .returned (.agg #[.int .i64 r1, v1_]) ∧ Kd.R (Kd.int .u64) 74 w' w.heap.size (fun _ => True) v1_ r2 ∧ Below w.heap.size w w' := by
  have hu36 := Tryd.underlying60
  unfold bits_Set_copied.f at h
  obtain ⟨⟨q1, q2⟩, hq, h⟩ := Option.bind_eq_some_iff.mp h
  simp only [Option.some.injEq, Prod.mk.injEq] at h
  obtain ⟨rfl, rfl⟩ := h
  have HQ := Aside0.mk hq
  have HR := Aside0.mk hr0_1
  have HC := Aside0.mk hc0_1
  have HB := Aside0.mk (Below.refl w.heap.size w)
  clear hq hr0_1 hc0_1
  go_enter Tryd.func58, Tryd.ntmps58
  go_wp2_with (first
    | ((with_reducible refine gate_dst (N := 2) rfl ?_); refine box_event ?hg (N := 2) ?hd (cs := #[.int .i64 a0_0, .slice A0_1 l0_1.length c0_1]) (t := 60) ?hr ?_; (case hd => rfl); (case hg => rfl); (case hr => first | (go_simp; done) | (go_simp; rfl)); intro b2 hb2 w1 hbox hb; have X2 := Aside0.mk hbox; have HB1 := Aside0.mk hb; clear hbox hb hb2)
    | ((with_reducible refine gate_dst (N := 4) rfl ?_); refine box_event ?hg (N := 4) ?hd (cs := #[.int .i64 0, .slice none 0 0]) (t := 60) ?hr ?_; (case hd => rfl); (case hg => rfl); (case hr => first | (go_simp; done) | (go_simp; rfl)); intro b4 hb4 w2 hbox hb; have X4 := Aside0.mk hbox; have Y2 := Aside0.mk (blk_below X2.out hb); have HB2 := Aside0.mk (below_step HB1.out hb); have L4 := Aside0.mk (show w.heap.size ≤ b4 by rw [hb4]; exact below_size HB1.out); clear hbox hb hb4)
    | (go_at_call 33; refine (bits_New.calls a1 _ q2 _ HQ.out).mono ?_; rintro e w3 ⟨v7, rfl, ho, hb⟩; obtain ⟨A7, c7, e7⟩ := Kd.R_slice ho; subst e7; have R7 := Aside0.mk ho; have Z2 := Aside0.mk (blk_below Y2.out hb); have Z4 := Aside0.mk (blk_below X4.out hb); have HB3 := Aside0.mk (below_step HB2.out hb); have S23 := Aside0.mk (below_size HB2.out); clear ho hb)
    | ((with_reducible refine gate_dst (N := 5) rfl ?_); refine box_event ?hg (N := 5) ?hd (cs := #[.int .i64 0, .slice none 0 0]) (t := 60) ?hr ?_; (case hd => rfl); (case hg => rfl); (case hr => first | (go_simp; done) | (go_simp; rfl)); intro b5 hb5 w4 hbox hb; have X5 := Aside0.mk hbox; have V2 := Aside0.mk (blk_below Z2.out hb); have V4 := Aside0.mk (blk_below Z4.out hb); have HB4 := Aside0.mk (below_step HB3.out hb); have R8 := Aside0.mk (Kd.R_below R7.out hb); have L5 := Aside0.mk (show w.heap.size ≤ b5 by rw [hb5]; exact below_size HB3.out); have N25 := Aside0.mk (show b2 ≠ b5 by have := blk_lt Z2.out; omega); have N45 := Aside0.mk (show b4 ≠ b5 by have := blk_lt Z4.out; omega); have m1 : w4.cell? ⟨b5, 0, none⟩ = some (.int .i64 0) := (blk_cell hbox 0).trans rfl; have m2 : w4.cell? ⟨b5, 1, none⟩ = some (.slice none 0 0) := (blk_cell hbox 1).trans rfl; have m3 := blk_frozen hbox 0; have m4 := blk_frozen hbox 1; have m5 : w4.cell? ⟨b2, 1, none⟩ = some (.slice A0_1 l0_1.length c0_1) := (blk_cell V2.out 1).trans rfl; have m6 : b5 ≠ b2 := (Ne.symm N25.out); clear hbox hb hb5)
    | ((with_reducible refine gate_builtin (b := .copy) (xs := #[.tmp 9, .tmp 11]) rfl ?_); have k1 := blk_put X5.out 0 (.int .i64 q1) rfl; have k2 := blk_put k1 1 (.slice A7 q2.length c7) rfl; have r1 : Kd.R (Kd.int .u64) 74 ((w4.setCell ⟨b5, 0, none⟩ (.int .i64 q1)).setCell ⟨b5, 1, none⟩ (.slice A7 q2.length c7)) w.heap.size (fun _ => True) (.slice A7 q2.length c7) q2 := (keep_box (keep_box (Kd.R_lower R8.out S23.out) X5.out (by decide)) k1 (by decide)); have hb5 : Below w.heap.size w ((w4.setCell ⟨b5, 0, none⟩ (.int .i64 q1)).setCell ⟨b5, 1, none⟩ (.slice A7 q2.length c7)) := below_set (below_set HB4.out L5.out) L5.out; have k4 : ((w4.setCell ⟨b5, 0, none⟩ (.int .i64 q1)).setCell ⟨b5, 1, none⟩ (.slice A7 q2.length c7)).heap[b4]? = _ := blk_far (blk_far V4.out N45.out _) N45.out _; refine Kd.R_copy (enc := Value.int .u64) (h1 := fun _ => rfl) (0 : Int) (w0 := w) w.heap.size rfl (.tmp 9) (.tmp 11) 58 58 74 rfl Tryd.underlying58 (by kernel_rfl) (.slice A7 q2.length c7) q2 l0_1 A0_1 l0_1.length c0_1 (fun _ => True) rfl rfl r1 (Kd.C_below HR.out hb5) hb5 (below_size hb5) ?_; intro w6 ho hb hg; have j5 := still_box k2 (by decide) r1 hg; have j4 := still_box k4 (by decide) r1 hg; have R9 := Aside0.mk ho; have HB6 := Aside0.mk hb; have J4 := Aside0.mk j4; have J5 := Aside0.mk j5; have u1 : w6.cell? ⟨b5, 0, none⟩ = some (.int .i64 q1) := (blk_cell j5 0).trans rfl; have u2 : w6.cell? ⟨b5, 1, none⟩ = some (.slice A7 q2.length c7) := (blk_cell j5 1).trans rfl; have u3 : w6.cell? ⟨b4, 0, none⟩ = some (.int .i64 0) := (blk_cell j4 0).trans rfl; have u4 : w6.cell? ⟨b4, 1, none⟩ = some (.slice none 0 0) := (blk_cell j4 1).trans rfl; have u5 := blk_frozen j4 0; have u6 := blk_frozen j4 1; clear k1 k2 r1 hb5 k4 ho hb hg j5 j4 m1 m2 m3 m4 m5))
  have g1 := blk_put J4.out 0 (.int .i64 q1) rfl
  have g2 := blk_put g1 1 (.slice A7 q2.length c7) rfl
  refine bodyPost_ret (results_cell_row rfl _ _ b4 60 #[.int .i64 q1, .slice A7 q2.length c7] (0, 0) _ rfl g2 Tryd.underlying60 rfl (by kernel_rfl)) rfl ?_
  exact ⟨_, rfl, keep_box (keep_box R9.out J4.out (by decide)) g1 (by decide), below_set (below_set HB6.out L4.out) L4.out⟩
end Go.Proofs.YtfiffhcpgojkhaaDoor.QLoopNests
