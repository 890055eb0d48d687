/- trig.Step computes trigS: its two entries' map is read back. No condition. -/
import Derived.Test.YthldpihpjekleaaDoorBase
import Derived.Test.YthldpihpjekleaaDoorWWords
import Derived.Test.YthldpihpjekleaaDoorWLast
import Derived.Test.YthldpihpjekleaaDoorWMore
import Derived.Maps.OwnOps
import Derived.Maps.OwnSet
import Derived.BigRegion
namespace Go.Proofs.YthldpihpjekleaaDoor
open Go.RowKit Go.Maps Go.Proofs.YthldpihpjekleaaDoorW.PrintWords Go.Proofs.YthldpihpjekleaaDoorW.PrintLast Go.Proofs.YthldpihpjekleaaDoorW.PrintMore
set_option linter.unusedSimpArgs false
set_option linter.unusedVariables false
def trigS (k : Int) (x : In) : In := if k = 7 then { x with a1 := bi (x.a0 != 0 && x.a2 == 0), a2 := bi (x.a0 != 0) } else if k = 8 then { x with a1 := bi (x.a0 == 0 && x.a2 != 0), a2 := bi (x.a0 != 0) } else x
/-- The map of the two truths. -/
def trigM : DataW Unit := ((DataW.map []).put (.bool true) (.lit (.int .i64 1))).put (.bool false) (.lit (.int .i64 0))
theorem trigM_at {b : Bool} {c : Int} (h : trigM.atKey (.bool b) (.lit (.int .i64 0)) = .lit (.int .i64 c)) : c = bi b := by
  have h2 : trigM.atKey (.bool b) (.lit (.int .i64 0)) = .lit (.int .i64 (bi b)) := by cases b <;> rfl
  rw [h2] at h
  injection h with h
  injection h with _ h
  exact h.symm
theorem zeroI (w : World) : (zeroValue 3).run Tryd.prog w = .ok (.int .i64 0) w := by kernel_rfl
theorem grown_blk {w w' : World} {g m t : Nat} {cs : Array Value} {f : Nat × Nat} (h : w.heap[g]? = some (.cells cs t f)) (hg : w.grownBy w' (some m)) (hne : g ≠ m) : w'.heap[g]? = some (.cells cs t f) := by
  obtain ⟨_, _, _, _, hb⟩ := hg
  rw [hb g (blk_lt h) (by simp; exact hne)]
  exact h
theorem blk_fill10 {w : World} {g t : Nat} {z0 z1 z2 z3 z4 z5 z6 z7 z8 z9 v0 v1 v2 v3 v4 v5 v6 v7 v8 v9 : Value} (h : w.heap[g]? = some (.cells #[z0, z1, z2, z3, z4, z5, z6, z7, z8, z9] t (0, 0))) : ((((((((((w.setCell ⟨g, 0, none⟩ v0).setCell ⟨g, 1, none⟩ v1).setCell ⟨g, 2, none⟩ v2).setCell ⟨g, 3, none⟩ v3).setCell ⟨g, 4, none⟩ v4).setCell ⟨g, 5, none⟩ v5).setCell ⟨g, 6, none⟩ v6).setCell ⟨g, 7, none⟩ v7).setCell ⟨g, 8, none⟩ v8).setCell ⟨g, 9, none⟩ v9).heap[g]? = some (.cells #[v0, v1, v2, v3, v4, v5, v6, v7, v8, v9] t (0, 0)) := by
  refine blk_put (cs := #[v0, v1, v2, v3, v4, v5, v6, v7, v8, z9]) ?_ 9 _ rfl
  refine blk_put (cs := #[v0, v1, v2, v3, v4, v5, v6, v7, z8, z9]) ?_ 8 _ rfl
  refine blk_put (cs := #[v0, v1, v2, v3, v4, v5, v6, z7, z8, z9]) ?_ 7 _ rfl
  refine blk_put (cs := #[v0, v1, v2, v3, v4, v5, z6, z7, z8, z9]) ?_ 6 _ rfl
  refine blk_put (cs := #[v0, v1, v2, v3, v4, z5, z6, z7, z8, z9]) ?_ 5 _ rfl
  refine blk_put (cs := #[v0, v1, v2, v3, z4, z5, z6, z7, z8, z9]) ?_ 4 _ rfl
  refine blk_put (cs := #[v0, v1, v2, z3, z4, z5, z6, z7, z8, z9]) ?_ 3 _ rfl
  refine blk_put (cs := #[v0, v1, z2, z3, z4, z5, z6, z7, z8, z9]) ?_ 2 _ rfl
  refine blk_put (cs := #[v0, z1, z2, z3, z4, z5, z6, z7, z8, z9]) ?_ 1 _ rfl
  refine blk_put (cs := #[z0, z1, z2, z3, z4, z5, z6, z7, z8, z9]) ?_ 0 _ rfl
  exact h
theorem below_fill10 {w W : World} {g : Nat} {v0 v1 v2 v3 v4 v5 v6 v7 v8 v9 : Value} (h : Below w.heap.size w W) (hg : w.heap.size ≤ g) : Below w.heap.size w ((((((((((W.setCell ⟨g, 0, none⟩ v0).setCell ⟨g, 1, none⟩ v1).setCell ⟨g, 2, none⟩ v2).setCell ⟨g, 3, none⟩ v3).setCell ⟨g, 4, none⟩ v4).setCell ⟨g, 5, none⟩ v5).setCell ⟨g, 6, none⟩ v6).setCell ⟨g, 7, none⟩ v7).setCell ⟨g, 8, none⟩ v8).setCell ⟨g, 9, none⟩ v9) := by
  refine Below.setCell ?_ (p := ⟨g, 9, none⟩) hg _
  refine Below.setCell ?_ (p := ⟨g, 8, none⟩) hg _
  refine Below.setCell ?_ (p := ⟨g, 7, none⟩) hg _
  refine Below.setCell ?_ (p := ⟨g, 6, none⟩) hg _
  refine Below.setCell ?_ (p := ⟨g, 5, none⟩) hg _
  refine Below.setCell ?_ (p := ⟨g, 4, none⟩) hg _
  refine Below.setCell ?_ (p := ⟨g, 3, none⟩) hg _
  refine Below.setCell ?_ (p := ⟨g, 2, none⟩) hg _
  refine Below.setCell ?_ (p := ⟨g, 1, none⟩) hg _
  refine Below.setCell ?_ (p := ⟨g, 0, none⟩) hg _
  exact h
set_option maxRecDepth 100000 in
set_option maxHeartbeats 4000000 in
theorem trig_in (k : Int) (hk : k = 7 ∨ k = 8) (x : In) (w : World) :
   Calls Tryd.prog 43 #[.int .i64 k, x.v] w fun e w' => e = .returned (trigS k x).v ∧ Below w.heap.size w w' := by
  obtain ⟨x0, x1, x2, x3, x4, x5, x6, x7, x8, x9⟩ := x
  have hmm := @run_makeMap Tryd.prog
  go_enter Tryd.func43, Tryd.ntmps43
  go_wp2_with (first
    | ((with_reducible refine gate_dst (N := 3) rfl ?_); refine box_event ?hg (N := 3) ?hd (cs := #[.int .i64 x0, .int .i64 x1, .int .i64 x2, .int .i64 x3, .int .i64 x4, .int .i64 x5, .int .i64 x6, .int .i64 x7, .int .i64 x8, .int .i64 x9]) (t := 24) ?hr ?_; (case hd => rfl); (case hg => rfl); (case hr => first | (go_simp; done) | (go_simp; rfl)); intro gx hgx wx hbox hb1; have xX := Aside0.mk hbox; have Hx := Aside0.mk hb1; have Gx := Aside0.mk hgx; clear hbox hb1 hgx)
    | ((with_reducible refine gate_dst (N := 4) rfl ?_); refine box_event ?hg (N := 4) ?hd (cs := #[.int .i64 0, .int .i64 0, .int .i64 0, .int .i64 0, .int .i64 0, .int .i64 0, .int .i64 0, .int .i64 0, .int .i64 0, .int .i64 0]) (t := 24) ?hr ?_; (case hd => rfl); (case hg => rfl); (case hr => first | (go_simp; done) | (go_simp; rfl)); intro gr hgr wr hbox hb1; have rX := Aside0.mk hbox; have Hr := Aside0.mk hb1; have Gr := Aside0.mk hgr; clear hbox hb1 hgr)
    | fail)
  have hne : gx ≠ wr.heap.size := by have l1 := blk_lt xX.out; have l2 := Hr.out.size; omega
  have hnr : gr ≠ wr.heap.size := by have l1 := blk_lt rX.out; omega
  obtain ⟨w1, hr1, ow1, gr1⟩ := (World.ownsMap_made (H := Unit) wr Tryd.prog 4 (plainElem Tryd.prog 3)).update (bool_keyed Tryd.underlying4) Tryd.underlying111 (by unfold maxLen; omega) (keyOf_bool_mk Tryd.underlying4 true) (plainElem_int (q := .i64) (a := 1) Tryd.underlying3 (by rfl))
  obtain ⟨w2, hr2, ow2, gr2⟩ := ow1.update (bool_keyed Tryd.underlying4) Tryd.underlying111 (by unfold maxLen; omega) (keyOf_bool_mk Tryd.underlying4 false) (plainElem_int (q := .i64) (a := 0) Tryd.underlying3 (by rfl))
  have B1 : w2.heap[gx]? = some (.cells #[.int .i64 x0, .int .i64 x1, .int .i64 x2, .int .i64 x3, .int .i64 x4, .int .i64 x5, .int .i64 x6, .int .i64 x7, .int .i64 x8, .int .i64 x9] 24 (0, 0)) := grown_blk (grown_blk (blk_alloc (blk_below xX.out Hr.out) _) gr1 hne) gr2 hne
  have c0 : w2.cell? ⟨gx, 0, none⟩ = some (.int .i64 x0) := (blk_cell B1 0).trans rfl
  have c1 : w2.cell? ⟨gx, 1, none⟩ = some (.int .i64 x1) := (blk_cell B1 1).trans rfl
  have c2 : w2.cell? ⟨gx, 2, none⟩ = some (.int .i64 x2) := (blk_cell B1 2).trans rfl
  have c3 : w2.cell? ⟨gx, 3, none⟩ = some (.int .i64 x3) := (blk_cell B1 3).trans rfl
  have c4 : w2.cell? ⟨gx, 4, none⟩ = some (.int .i64 x4) := (blk_cell B1 4).trans rfl
  have c5 : w2.cell? ⟨gx, 5, none⟩ = some (.int .i64 x5) := (blk_cell B1 5).trans rfl
  have c6 : w2.cell? ⟨gx, 6, none⟩ = some (.int .i64 x6) := (blk_cell B1 6).trans rfl
  have c7 : w2.cell? ⟨gx, 7, none⟩ = some (.int .i64 x7) := (blk_cell B1 7).trans rfl
  have c8 : w2.cell? ⟨gx, 8, none⟩ = some (.int .i64 x8) := (blk_cell B1 8).trans rfl
  have c9 : w2.cell? ⟨gx, 9, none⟩ = some (.int .i64 x9) := (blk_cell B1 9).trans rfl
  have f1 := blk_frozen B1 1
  have f2 := blk_frozen B1 2
  have R1 : w2.heap[gr]? = some (.cells #[.int .i64 0, .int .i64 0, .int .i64 0, .int .i64 0, .int .i64 0, .int .i64 0, .int .i64 0, .int .i64 0, .int .i64 0, .int .i64 0] 24 (0, 0)) := grown_blk (grown_blk (blk_alloc rX.out _) gr1 hnr) gr2 hnr
  have g0 := blk_frozen R1 0
  have g1 := blk_frozen R1 1
  have g2 := blk_frozen R1 2
  have g3 := blk_frozen R1 3
  have g4 := blk_frozen R1 4
  have g5 := blk_frozen R1 5
  have g6 := blk_frozen R1 6
  have g7 := blk_frozen R1 7
  have g8 := blk_frozen R1 8
  have g9 := blk_frozen R1 9
  have d0 : w2.cell? ⟨gr, 0, none⟩ = some (.int .i64 0) := (blk_cell R1 0).trans rfl
  have d1 : w2.cell? ⟨gr, 1, none⟩ = some (.int .i64 0) := (blk_cell R1 1).trans rfl
  have d2 : w2.cell? ⟨gr, 2, none⟩ = some (.int .i64 0) := (blk_cell R1 2).trans rfl
  have d3 : w2.cell? ⟨gr, 3, none⟩ = some (.int .i64 0) := (blk_cell R1 3).trans rfl
  have d4 : w2.cell? ⟨gr, 4, none⟩ = some (.int .i64 0) := (blk_cell R1 4).trans rfl
  have d5 : w2.cell? ⟨gr, 5, none⟩ = some (.int .i64 0) := (blk_cell R1 5).trans rfl
  have d6 : w2.cell? ⟨gr, 6, none⟩ = some (.int .i64 0) := (blk_cell R1 6).trans rfl
  have d7 : w2.cell? ⟨gr, 7, none⟩ = some (.int .i64 0) := (blk_cell R1 7).trans rfl
  have d8 : w2.cell? ⟨gr, 8, none⟩ = some (.int .i64 0) := (blk_cell R1 8).trans rfl
  have d9 : w2.cell? ⟨gr, 9, none⟩ = some (.int .i64 0) := (blk_cell R1 9).trans rfl
  have hxr : gx ≠ gr := by have l1 := blk_lt xX.out; have l3 := Gr.out; omega
  have hrx : gr ≠ gx := fun h => hxr h.symm
  have RX2 := Aside0.mk R1
  have hgx : w.heap.size ≤ gx := Nat.le_of_eq Gx.out.symm
  have hgr : w.heap.size ≤ gr := by have := Hx.out.size; have := Gr.out; omega
  have HBr := below_stepI Hx.out Hr.out
  have HB2 := Aside0.mk (((HBr.alloc HBr.size (.map #[] 0)).grown gr1 (HBr.alloc HBr.size (.map #[] 0)).size (fun j hj => by cases hj; exact HBr.size)).grown gr2 ((HBr.alloc HBr.size (.map #[] 0)).grown gr1 (HBr.alloc HBr.size (.map #[] 0)).size (fun j hj => by cases hj; exact HBr.size)).size (fun j hj => by cases hj; exact HBr.size))
  clear HBr
  have BX2 := Aside0.mk B1
  have OW2 := Aside0.mk ow2
  clear ow1 ow2 gr1 gr2 B1 R1
  rw [hr1]
  go_wp2_with fail
  go_quiet (fail)
  rcases hk with rfl | rfl
  · go_wp2_with (first | (at_lookup; refine wpList_lookup_own_int _ rfl _ _ 111 rfl 4 3 .i64 (bool_keyed Tryd.underlying4) Tryd.underlying111 Tryd.underlying3 (zeroI _) wr.heap.size 2 _ rfl OW2.out _ _ rfl (keyOf_bool_mk Tryd.underlying4 _) ?_; intro c hat hwc; obtain rfl := trigM_at hat; clear hat hwc) | (at_lookup; refine wpList_lookup_own_int _ rfl _ _ 111 rfl 4 3 .i64 (bool_keyed Tryd.underlying4) Tryd.underlying111 Tryd.underlying3 (zeroI _) wr.heap.size 2 _ rfl (World.ownsMap.setCell OW2.out (fun h => hne h.symm) _) _ _ rfl (keyOf_bool_mk Tryd.underlying4 _) ?_; intro c hat hwc; obtain rfl := trigM_at hat; clear hat hwc) | fail)
    all_goals
      refine bodyPost_ret (results_cell_row rfl _ _ gr 24 _ (0, 0) _ rfl (by exact blk_fill10 (blk_far (p := ⟨gx, 2, none⟩) (blk_far (p := ⟨gx, 1, none⟩) (show (w2.drewN nq).heap[gr]? = _ from RX2.out) hrx _) hrx _)) Tryd.underlying24 rfl (by kernel_rfl)) rfl ?_
      refine ⟨?_, below_fill10 (Below.setCell (Below.setCell (below_drewN HB2.out nq) (p := ⟨gx, 1, none⟩) hgx _) (p := ⟨gx, 2, none⟩) hgx _) hgr⟩
      simp [trigS, In.v, bne, *]
      all_goals try (rename_i hz; simp [beq_eq_false_iff_ne.mpr hz])
  · go_wp2_with (first | (at_lookup; refine wpList_lookup_own_int _ rfl _ _ 111 rfl 4 3 .i64 (bool_keyed Tryd.underlying4) Tryd.underlying111 Tryd.underlying3 (zeroI _) wr.heap.size 2 _ rfl OW2.out _ _ rfl (keyOf_bool_mk Tryd.underlying4 _) ?_; intro c hat hwc; obtain rfl := trigM_at hat; clear hat hwc) | (at_lookup; refine wpList_lookup_own_int _ rfl _ _ 111 rfl 4 3 .i64 (bool_keyed Tryd.underlying4) Tryd.underlying111 Tryd.underlying3 (zeroI _) wr.heap.size 2 _ rfl (World.ownsMap.setCell OW2.out (fun h => hne h.symm) _) _ _ rfl (keyOf_bool_mk Tryd.underlying4 _) ?_; intro c hat hwc; obtain rfl := trigM_at hat; clear hat hwc) | fail)
    all_goals
      refine bodyPost_ret (results_cell_row rfl _ _ gr 24 _ (0, 0) _ rfl (by exact blk_fill10 (blk_far (p := ⟨gx, 2, none⟩) (blk_far (p := ⟨gx, 1, none⟩) (show (w2.drewN nq).heap[gr]? = _ from RX2.out) hrx _) hrx _)) Tryd.underlying24 rfl (by kernel_rfl)) rfl ?_
      refine ⟨?_, below_fill10 (Below.setCell (Below.setCell (below_drewN HB2.out nq) (p := ⟨gx, 1, none⟩) hgx _) (p := ⟨gx, 2, none⟩) hgx _) hgr⟩
      simp [trigS, In.v, bne, *]
      all_goals try (rename_i hz; simp [beq_eq_false_iff_ne.mpr hz])
set_option maxRecDepth 100000 in
set_option maxHeartbeats 4000000 in
theorem trig_out (k : Int) (h7 : (k == 7) = false) (h8 : (k == 8) = false) (x : In) (w : World) :
   Calls Tryd.prog 43 #[.int .i64 k, x.v] w fun e w' => e = .returned x.v ∧ Below w.heap.size w w' := by
  obtain ⟨x0, x1, x2, x3, x4, x5, x6, x7, x8, x9⟩ := x
  have hmm := @run_makeMap Tryd.prog
  go_enter Tryd.func43, Tryd.ntmps43
  go_wp2_with (first
    | ((with_reducible refine gate_dst (N := 3) rfl ?_); refine box_event ?hg (N := 3) ?hd (cs := #[.int .i64 x0, .int .i64 x1, .int .i64 x2, .int .i64 x3, .int .i64 x4, .int .i64 x5, .int .i64 x6, .int .i64 x7, .int .i64 x8, .int .i64 x9]) (t := 24) ?hr ?_; (case hd => rfl); (case hg => rfl); (case hr => first | (go_simp; done) | (go_simp; rfl)); intro gx hgx wx hbox hb1; have xX := Aside0.mk hbox; have Hx := Aside0.mk hb1; have Gx := Aside0.mk hgx; clear hbox hb1 hgx)
    | ((with_reducible refine gate_dst (N := 4) rfl ?_); refine box_event ?hg (N := 4) ?hd (cs := #[.int .i64 0, .int .i64 0, .int .i64 0, .int .i64 0, .int .i64 0, .int .i64 0, .int .i64 0, .int .i64 0, .int .i64 0, .int .i64 0]) (t := 24) ?hr ?_; (case hd => rfl); (case hg => rfl); (case hr => first | (go_simp; done) | (go_simp; rfl)); intro gr hgr wr hbox hb1; have rX := Aside0.mk hbox; have Hr := Aside0.mk hb1; have Gr := Aside0.mk hgr; clear hbox hb1 hgr)
    | fail)
  have hne : gx ≠ wr.heap.size := by have l1 := blk_lt xX.out; have l2 := Hr.out.size; omega
  have hnr : gr ≠ wr.heap.size := by have l1 := blk_lt rX.out; omega
  obtain ⟨w1, hr1, ow1, gr1⟩ := (World.ownsMap_made (H := Unit) wr Tryd.prog 4 (plainElem Tryd.prog 3)).update (bool_keyed Tryd.underlying4) Tryd.underlying111 (by unfold maxLen; omega) (keyOf_bool_mk Tryd.underlying4 true) (plainElem_int (q := .i64) (a := 1) Tryd.underlying3 (by rfl))
  obtain ⟨w2, hr2, ow2, gr2⟩ := ow1.update (bool_keyed Tryd.underlying4) Tryd.underlying111 (by unfold maxLen; omega) (keyOf_bool_mk Tryd.underlying4 false) (plainElem_int (q := .i64) (a := 0) Tryd.underlying3 (by rfl))
  have B1 : w2.heap[gx]? = some (.cells #[.int .i64 x0, .int .i64 x1, .int .i64 x2, .int .i64 x3, .int .i64 x4, .int .i64 x5, .int .i64 x6, .int .i64 x7, .int .i64 x8, .int .i64 x9] 24 (0, 0)) := grown_blk (grown_blk (blk_alloc (blk_below xX.out Hr.out) _) gr1 hne) gr2 hne
  have c0 : w2.cell? ⟨gx, 0, none⟩ = some (.int .i64 x0) := (blk_cell B1 0).trans rfl
  have c1 : w2.cell? ⟨gx, 1, none⟩ = some (.int .i64 x1) := (blk_cell B1 1).trans rfl
  have c2 : w2.cell? ⟨gx, 2, none⟩ = some (.int .i64 x2) := (blk_cell B1 2).trans rfl
  have c3 : w2.cell? ⟨gx, 3, none⟩ = some (.int .i64 x3) := (blk_cell B1 3).trans rfl
  have c4 : w2.cell? ⟨gx, 4, none⟩ = some (.int .i64 x4) := (blk_cell B1 4).trans rfl
  have c5 : w2.cell? ⟨gx, 5, none⟩ = some (.int .i64 x5) := (blk_cell B1 5).trans rfl
  have c6 : w2.cell? ⟨gx, 6, none⟩ = some (.int .i64 x6) := (blk_cell B1 6).trans rfl
  have c7 : w2.cell? ⟨gx, 7, none⟩ = some (.int .i64 x7) := (blk_cell B1 7).trans rfl
  have c8 : w2.cell? ⟨gx, 8, none⟩ = some (.int .i64 x8) := (blk_cell B1 8).trans rfl
  have c9 : w2.cell? ⟨gx, 9, none⟩ = some (.int .i64 x9) := (blk_cell B1 9).trans rfl
  have f1 := blk_frozen B1 1
  have f2 := blk_frozen B1 2
  have R1 : w2.heap[gr]? = some (.cells #[.int .i64 0, .int .i64 0, .int .i64 0, .int .i64 0, .int .i64 0, .int .i64 0, .int .i64 0, .int .i64 0, .int .i64 0, .int .i64 0] 24 (0, 0)) := grown_blk (grown_blk (blk_alloc rX.out _) gr1 hnr) gr2 hnr
  have g0 := blk_frozen R1 0
  have g1 := blk_frozen R1 1
  have g2 := blk_frozen R1 2
  have g3 := blk_frozen R1 3
  have g4 := blk_frozen R1 4
  have g5 := blk_frozen R1 5
  have g6 := blk_frozen R1 6
  have g7 := blk_frozen R1 7
  have g8 := blk_frozen R1 8
  have g9 := blk_frozen R1 9
  have d0 : w2.cell? ⟨gr, 0, none⟩ = some (.int .i64 0) := (blk_cell R1 0).trans rfl
  have d1 : w2.cell? ⟨gr, 1, none⟩ = some (.int .i64 0) := (blk_cell R1 1).trans rfl
  have d2 : w2.cell? ⟨gr, 2, none⟩ = some (.int .i64 0) := (blk_cell R1 2).trans rfl
  have d3 : w2.cell? ⟨gr, 3, none⟩ = some (.int .i64 0) := (blk_cell R1 3).trans rfl
  have d4 : w2.cell? ⟨gr, 4, none⟩ = some (.int .i64 0) := (blk_cell R1 4).trans rfl
  have d5 : w2.cell? ⟨gr, 5, none⟩ = some (.int .i64 0) := (blk_cell R1 5).trans rfl
  have d6 : w2.cell? ⟨gr, 6, none⟩ = some (.int .i64 0) := (blk_cell R1 6).trans rfl
  have d7 : w2.cell? ⟨gr, 7, none⟩ = some (.int .i64 0) := (blk_cell R1 7).trans rfl
  have d8 : w2.cell? ⟨gr, 8, none⟩ = some (.int .i64 0) := (blk_cell R1 8).trans rfl
  have d9 : w2.cell? ⟨gr, 9, none⟩ = some (.int .i64 0) := (blk_cell R1 9).trans rfl
  have hxr : gx ≠ gr := by have l1 := blk_lt xX.out; have l3 := Gr.out; omega
  have hrx : gr ≠ gx := fun h => hxr h.symm
  have RX2 := Aside0.mk R1
  have hgx : w.heap.size ≤ gx := Nat.le_of_eq Gx.out.symm
  have hgr : w.heap.size ≤ gr := by have := Hx.out.size; have := Gr.out; omega
  have HBr := below_stepI Hx.out Hr.out
  have HB2 := Aside0.mk (((HBr.alloc HBr.size (.map #[] 0)).grown gr1 (HBr.alloc HBr.size (.map #[] 0)).size (fun j hj => by cases hj; exact HBr.size)).grown gr2 ((HBr.alloc HBr.size (.map #[] 0)).grown gr1 (HBr.alloc HBr.size (.map #[] 0)).size (fun j hj => by cases hj; exact HBr.size)).size (fun j hj => by cases hj; exact HBr.size))
  clear HBr
  have BX2 := Aside0.mk B1
  have OW2 := Aside0.mk ow2
  clear ow1 ow2 gr1 gr2 B1 R1
  rw [hr1]
  go_wp2_with fail
  go_quiet (fail)
  go_wp2_with fail
  refine bodyPost_ret (results_cell_row rfl _ _ gr 24 _ (0, 0) _ rfl (by exact blk_fill10 (show (w2.drewN nq).heap[gr]? = _ from RX2.out)) Tryd.underlying24 rfl (by kernel_rfl)) rfl ?_
  exact ⟨rfl, below_fill10 (below_drewN HB2.out nq) hgr⟩
theorem trig_Step_any (k : Int) (x : In) (w : World) :
   Calls Tryd.prog 43 #[.int .i64 k, x.v] w fun e w' => e = .returned (trigS k x).v ∧ Below w.heap.size w w' := by
  by_cases h7 : k = 7
  · exact trig_in k (Or.inl h7) x w
  by_cases h8 : k = 8
  · exact trig_in k (Or.inr h8) x w
  unfold trigS
  rw [if_neg h7, if_neg h8]
  exact trig_out k (by simpa using h7) (by simpa using h8) x w
end Go.Proofs.YthldpihpjekleaaDoor
