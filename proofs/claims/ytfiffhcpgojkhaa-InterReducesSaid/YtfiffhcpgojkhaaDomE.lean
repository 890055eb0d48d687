/- dom.Idom by hand. No condition. -/
import Derived.Test.YtfiffhcpgojkhaaDomD
namespace Go.Proofs.Ytfiffhcpgojkhaa
open Go.RowKit Go.Proofs.YtfiffhcpgojkhaaW.PrintWords Go.Proofs.YtfiffhcpgojkhaaW.PrintLast Go.Proofs.YtfiffhcpgojkhaaW.PrintMore Go.Proofs.Ytfiffhcpgojkhaa.DomF DomA
set_option linter.unusedVariables false
set_option linter.unusedSimpArgs false
def dom_Idom.f (k : Nat) (l0 : List (List Int)) : Option (List Int) := if l0.length ≤ 11728124029610 then (dom_Order.f l0).bind fun ord => idomF k l0 ord else none
/-- A flag as a number. -/
def DomA.flag (n : Nat) : Bool := decide (n = 1)
theorem DomA.flag_of (m : Bool) : ∃ n, DomA.flag n = m := by cases m; exact ⟨0, rfl⟩; exact ⟨1, rfl⟩
theorem DomA.infoS : (Try.prog.info? 27).map (fun i => (i.zero, i.size, i.bytes)) = some (some (.slice none 0 0), 1, 24) := by kernel_rfl
theorem DomA.reokR {w w' : World} {base : Nat} {ok ok' : Nat → Prop} {v : Value} {xs : List Int} (h : Kd.R (Kd.int .i64) 3 w base ok v xs) (hk : ∀ k, v.ownBlock = some k → ok' k) : Kd.R (Kd.int .i64) 3 w base ok' v xs := Kd.R_reok rfl h hk
theorem DomA.ownLt {w : World} {base : Nat} {ok : Nat → Prop} {v : Value} {xs : List Int} (h : Kd.R (Kd.int .i64) 3 w base ok v xs) (k : Nat) (hk : v.ownBlock = some k) : k < w.heap.size := by
  obtain ⟨cs, hc⟩ := Kd.R_typed h k hk
  exact blk_lt hc
theorem DomA.order_pos {l0 : List (List Int)} {ord : List Int} (h : dom_Order.f l0 = some ord) (h0 : ord.length ≠ 0) : 0 < l0.length := by
  unfold dom_Order.f at h
  split at h
  rotate_left
  · cases h
  obtain ⟨r', ho, h⟩ := Option.bind_eq_some_iff.mp h
  split at h
  rotate_left
  · cases h
  obtain rfl := Option.some.inj h
  by_cases hl : l0.length = 0
  · unfold orderF at ho
    rw [if_pos hl] at ho
    obtain rfl := Option.some.inj ho
    exact absurd rfl h0
  · omega
theorem DomA.order_guard {l0 : List (List Int)} {ord : List Int} (h : dom_Order.f l0 = some ord) : ord.length ≤ 17592186044416 ∧ ∀ i, (rdL l0 i).length < 4611686018427387904 := by
  unfold dom_Order.f at h
  split at h
  rotate_left
  · cases h
  rename_i hg
  obtain ⟨r', ho, h⟩ := Option.bind_eq_some_iff.mp h
  split at h
  rotate_left
  · cases h
  rename_i hg3
  obtain rfl := Option.some.inj h
  refine ⟨hg3, fun i => ?_⟩
  unfold rdL
  by_cases hi : i.toNat < l0.length
  · have := List.all_eq_true.mp hg.2 (l0.getD i.toNat []) (by simp [List.getD_eq_getElem?_getD, hi])
    simpa using this
  · simp [List.getD_eq_getElem?_getD, hi]
set_option maxHeartbeats 16000000 in
set_option maxRecDepth 100000 in
theorem dom_Idom.calls (k : Nat) (A0 : Option Addr) (c0 : Nat) (l0 : List (List Int)) (r : List Int) (w : World) (hr0 : Kd.C (Kd.slice 3 (Kd.int .i64)) w A0 l0.length l0) (hc0 : l0.length ≤ c0) (h : dom_Idom.f k l0 = some r) :
    Calls Try.prog 53 #[.slice A0 l0.length c0] w fun e w' => ∃ v0_ : Value, e = .returned v0_ ∧ Kd.R (Kd.int .i64) 3 w' w.heap.size (fun _ => True) v0_ r ∧ Below w.heap.size w w' := by
  unfold dom_Idom.f at h
  split at h
  rotate_left
  · cases h
  rename_i hg1
  obtain ⟨ord, ho, h⟩ := Option.bind_eq_some_iff.mp h
  have z2 : decide (0 ≤ (l0.length : Int)) = true := decide_eq_true (by omega)
  have z4 : (0 ≤ (l0.length : Int)) = True := eq_true (by omega)
  have hmf : ∀ (fn : Fn) (first cap : Array Value) (w : World), (Instr.makeFunc fn first cap).run Try.prog w = .ok (.func fn first cap) w := fun _ _ _ _ => rfl
  have HO := Aside0.mk ho
  have HG1 := Aside0.mk hg1
  have HR0 := Aside0.mk hr0
  have HC0 := Aside0.mk hc0
  have HH := Aside0.mk h
  have HB := Aside0.mk (Below.refl w.heap.size w)
  clear ho hg1 hr0 hc0 h
  go_enter Try.func53, Try.ntmps53
  go_wp2_with (first
    | ((with_reducible refine gate_callee (f := 72) rfl ?_); refine goesL_ (some 20) rfl rfl Try.func72 (by kernel_rfl) rfl #[.slice A0 l0.length c0] rfl (by (try simp only [List.map_toArray, List.map_cons, List.map_nil]); first | done | rfl) ?_; (with_reducible refine (dom_Order.calls A0 c0 l0 ord w HR0.out HC0.out HO.out).mono ?_); rintro e w1 ⟨v1, rfl, ho1, hb1⟩; refine ⟨_, rfl, ?_⟩; obtain ⟨Ao, co, eo⟩ := Kd.R_slice ho1; subst eo; have ORD := Aside0.mk (DomA.reokR (w' := w1) (ok' := fun k => k < w1.heap.size) ho1 (DomA.ownLt ho1)); have HB1 := Aside0.mk hb1; clear ho1 hb1)
    | ((with_reducible refine gate_dst (N := 23) rfl ?_); refine Kd.R_make (Kd.int .i64) _ 3 rfl (N := 23) rfl 27 _ _ rfl (l0.length : Int) rfl rfl Try.underlying27 (.int .i64 0) 8 DomA.infoI rfl (by decide) (by omega) (0 : Int) (ok := fun _ => True) (okp := fun _ => True) rfl (fun _ hk => hk) trivial (by omega) (by have := HG1.out; omega) (Below.refl _ _) (Nat.le_refl _) ?_; intro v2 w2 ho2 hb2 hg2 hnew2; rw [Int.toNat_natCast] at ho2; obtain ⟨A1, c1, e1⟩ := Kd.R_slice ho2; rw [List.length_replicate] at e1; subst e1; have ORD2 := Aside0.mk (Kd.R_below ORD.out hb2); have T2 := Aside0.mk (DomA.reokR (w' := w2) (ok' := fun k => w1.heap.size ≤ k ∧ k < w2.heap.size) (Kd.R_lower ho2 (below_size HB1.out)) (fun k hk => ⟨Kd.R_base ho2 k hk, DomA.ownLt ho2 k hk⟩)); have HB2 := Aside0.mk (below_step HB1.out hb2); have S12 := Aside0.mk (below_size hb2); clear ho2 hb2 hg2 hnew2 ORD)
    | ((with_reducible refine gate_dst (N := 4) rfl ?_); refine box_event ?hg (N := 4) ?hd (cs := #[.slice none 0 0]) (t := 27) ?hr ?_; (case hd => rfl); (case hg => rfl); (case hr => first | (go_simp; done) | (go_simp; rfl)); intro bt hbt w3 hbox hb3; have m1 : w3.cell? ⟨bt, 0, none⟩ = some (.slice none 0 0) := (blk_cell hbox 0).trans rfl; have m2 := blk_frozen hbox 0; have BT3 := Aside0.mk hbox; have ORD3 := Aside0.mk (Kd.R_below ORD2.out hb3); have T3 := Aside0.mk (Kd.R_below T2.out hb3); have EBT := Aside0.mk hbt; have LBT := Aside0.mk (show w.heap.size ≤ bt by rw [hbt]; exact below_size HB2.out); have HB3 := Aside0.mk (below_step HB2.out hb3); have S23 := Aside0.mk (below_size hb3); clear hbox hb3 hbt ORD2 T2)
    | ((with_reducible refine gate_store (t := 27) (p := 4) rfl ?_); refine store_event (t := 27) (p := 4) (v := ?vo) (w1 := (w3.setCell ⟨bt, 0, none⟩ (.slice A1 l0.length c1))) ?hg ?ho ?hn ?hr ?_; (case ho => rfl); (case hg => rfl); (case hn => rfl); (case hr => first | (go_simp; done) | (go_simp; rfl)); intro w4 hw; have BT4 := Aside0.mk (show w4.heap[bt]? = some (.cells #[.slice A1 l0.length c1] 27 (0, 0)) by rw [hw]; exact blk_put BT3.out 0 (.slice A1 l0.length c1) rfl); have hg4 : w3.grownBy w4 (some bt) := (by rw [hw]; exact ⟨rfl, rfl, rfl, by simp [World.setCell], fun k _ hk => Below.heap_setCell _ _ _ k (fun e => hk (by rw [e]))⟩); have ORD4 := Aside0.mk (Kd.R_over' (v := .slice (some ⟨bt, 0, none⟩) 1 1) ORD3.out (fun k hk => by cases hk; exact ⟨_, BT3.out⟩) (by decide) hg4); have T4 := Aside0.mk (Kd.R_over' (v := .slice (some ⟨bt, 0, none⟩) 1 1) T3.out (fun k hk => by cases hk; exact ⟨_, BT3.out⟩) (by decide) hg4); have HB4 := Aside0.mk (show Below w.heap.size w w4 by rw [hw]; exact below_set HB3.out LBT.out); have S34 := Aside0.mk hg4.size; clear hw hg4 m1 m2 ORD3 T3 BT3)
    | ((with_reducible refine gate_dst (N := 26) rfl ?_); refine Kd.R_make (Kd.int .i64) _ 3 rfl (N := 26) rfl 27 _ _ rfl (l0.length : Int) rfl rfl Try.underlying27 (.int .i64 0) 8 DomA.infoI rfl (by decide) (by omega) (0 : Int) (ok := fun _ => True) (okp := fun _ => True) rfl (fun _ hk => hk) trivial (by omega) (by have := HG1.out; omega) (Below.refl _ _) (Nat.le_refl _) ?_; intro v5 w5 ho5 hb5 hg5 hnew5; rw [Int.toNat_natCast] at ho5; obtain ⟨A2, c2, e2⟩ := Kd.R_slice ho5; rw [List.length_replicate] at e2; subst e2; have ORD5 := Aside0.mk (Kd.R_below ORD4.out hb5); have T5 := Aside0.mk (Kd.R_below T4.out hb5); have BT5 := Aside0.mk (blk_below BT4.out hb5); have D5 := Aside0.mk (DomA.reokR (w' := w5) (ok' := fun k => w2.heap.size ≤ k ∧ k < w5.heap.size) (Kd.R_lower ho5 (below_size HB4.out)) (fun k hk => ⟨Nat.le_trans (Nat.le_trans S23.out S34.out) (Kd.R_base ho5 k hk), DomA.ownLt ho5 k hk⟩)); have HB5 := Aside0.mk (below_step HB4.out hb5); have S45 := Aside0.mk (below_size hb5); clear ho5 hb5 hg5 hnew5 ORD4 T4 BT4)
    | ((with_reducible refine gate_dst (N := 5) rfl ?_); refine box_event ?hg (N := 5) ?hd (cs := #[.slice none 0 0]) (t := 27) ?hr ?_; (case hd => rfl); (case hg => rfl); (case hr => first | (go_simp; done) | (go_simp; rfl)); intro bi hbi w6 hbox hb6; have m1 : w6.cell? ⟨bi, 0, none⟩ = some (.slice none 0 0) := (blk_cell hbox 0).trans rfl; have m2 := blk_frozen hbox 0; have BI6 := Aside0.mk hbox; have ORD6 := Aside0.mk (Kd.R_below ORD5.out hb6); have T6 := Aside0.mk (Kd.R_below T5.out hb6); have D6 := Aside0.mk (Kd.R_below D5.out hb6); have BT6 := Aside0.mk (blk_below BT5.out hb6); have NTI := Aside0.mk (show bt ≠ bi by have := blk_lt BT5.out; omega); have LBI := Aside0.mk (show w.heap.size ≤ bi by rw [hbi]; exact below_size HB5.out); have HB6 := Aside0.mk (below_step HB5.out hb6); have S56 := Aside0.mk (below_size hb6); clear hbox hb6 hbi ORD5 T5 D5 BT5))
  obtain ⟨w7, hw⟩ : ∃ w7 : World, w7 = (w6.setCell ⟨bi, 0, none⟩ (.slice A2 l0.length c2)) := ⟨_, rfl⟩
  rw [← hw]
  have hg7 : w6.grownBy w7 (some bi) := (by rw [hw]; exact ⟨rfl, rfl, rfl, by simp [World.setCell], fun k _ hk => Below.heap_setCell _ _ _ k (fun e => hk (by rw [e]))⟩)
  have h7 : DI w ⟨bt, bi, A1, A2, c1, c2, l0.length, .slice Ao ord.length co, w1.heap.size, w2.heap.size, w7.heap.size⟩ (List.replicate l0.length 0) (List.replicate l0.length 0) ord w7 := ⟨(by rw [hw]; exact below_set HB6.out LBI.out), blk_grown BT6.out hg7 (by have := NTI.out; simpa using this), (by rw [hw]; exact blk_put BI6.out 0 (.slice A2 l0.length c2) rfl), Kd.R_over' (v := .slice (some ⟨bi, 0, none⟩) 1 1) T6.out (fun k hk => by cases hk; exact ⟨_, BI6.out⟩) (by decide) hg7, Kd.R_mono (Kd.R_over' (v := .slice (some ⟨bi, 0, none⟩) 1 1) D6.out (fun k hk => by cases hk; exact ⟨_, BI6.out⟩) (by decide) hg7) (fun k hk => ⟨hk.1, Nat.lt_of_lt_of_le hk.2 (Nat.le_trans S56.out hg7.size)⟩), Kd.R_over' (v := .slice (some ⟨bi, 0, none⟩) 1 1) ORD6.out (fun k hk => by cases hk; exact ⟨_, BI6.out⟩) (by decide) hg7, (Nat.lt_of_lt_of_le (blk_lt BT6.out) hg7.size), (Nat.lt_of_lt_of_le (blk_lt BI6.out) hg7.size), below_size HB1.out, S12.out, (Nat.le_trans (Nat.le_trans (Nat.le_trans (Nat.le_trans S23.out S34.out) S45.out) S56.out) hg7.size), Nat.le_refl _⟩
  have H7 := Aside0.mk h7
  have f7 : w7.cell? ⟨bi, 0, none⟩ = some (.slice A2 l0.length c2) := (blk_cell h7.hd 0).trans rfl
  clear hw hg7 h7 m1 m2 ORD6 T6 D6 BT6 BI6
  clear hmf
  go_loopw [29] (fun vi wr => ∃ (j : Nat) (T D : List Int), vi = .int .i64 (j : Int) ∧ j ≤ l0.length ∧ (T.length = l0.length ∧ D.length = l0.length ∧ ∀ q, q < j → T.getD q 0 = -1 ∧ D.getD q 0 = -1) ∧ Aside0 (DI w ⟨bt, bi, A1, A2, c1, c2, l0.length, .slice Ao ord.length co, w1.heap.size, w2.heap.size, w7.heap.size⟩ T D ord wr)) (fun vi _ => l0.length - (intOf vi).toNat)
  case atStart => exact ⟨0, _, _, rfl, Nat.zero_le _, ⟨by simp, by simp, fun q hq => by omega⟩, H7⟩
  case round =>
    obtain ⟨j, T, D, rfl, hj, hTD, hI⟩ := hrel
    clear H7 f7
    by_cases hlt : j < l0.length
    · obtain ⟨g1, e1, n1, n2, n3, p1, p2, st1⟩ := hI.out.T (j : Int) (by omega) (by simp only; omega)
      obtain ⟨g2, e2, n4, n5, n6, p3, p4, st2⟩ := hI.out.D (j : Int) (by omega) (by simp only; omega)
      have ne12 := hI.out.ne e1 e2
      have ne21 := ne12.symm
      simp only at e1 e2 n1 n2 n4 n5
      subst e1
      subst e2
      have b1 : wr.cell? ⟨bt, 0, none⟩ = some (.slice (some ⟨g1, 0, none⟩) l0.length c1) := (blk_cell hI.out.ht 0).trans rfl
      have b2 : wr.cell? ⟨bi, 0, none⟩ = some (.slice (some ⟨g2, 0, none⟩) l0.length c2) := (blk_cell hI.out.hd 0).trans rfl
      rw [Int.toNat_natCast] at p1 p2 p3 p4
      have y0 : decide ((j : Int) < (l0.length : Int)) = true := decide_eq_true (by omega)
      have q1 : 0 ≤ (j : Int) := by omega
      have q2 : (j : Int) < (l0.length : Int) := by omega
      have n7 := n1.symm
      have n8 := n2.symm
      have n9 := n4.symm
      have n10 := n5.symm
      have HTD := Aside0.mk hTD
      have ST1 := Aside0.mk st1
      clear hTD st1 st2
      generalize rd T (j : Int) = ta at p1
      generalize rd D (j : Int) = da at p3
      have hgn : l0.length < 4611686018427387904 := by have := HG1.out; omega
      go_wp2
      go_region_held3 (fun w' => w'.cell? ⟨bt, 0, none⟩ = some (.slice (some ⟨g1, 0, none⟩) l0.length c1) ∧ w'.cell? ⟨bi, 0, none⟩ = some (.slice (some ⟨g2, 0, none⟩) l0.length c2)) (go_keep) (fail)
      all_goals go_wp2
      all_goals go_roundw
      case measure => simp [intOf]; omega
      case rel =>
        refine ⟨j + 1, T.set j (-1), D.set j (-1), by go_num, hlt, ⟨by rw [List.length_set]; exact HTD.out.1, by rw [List.length_set]; exact HTD.out.2.1, fun q hq => ?_⟩, ⟨DI.drew ?_⟩⟩
        · rw [getD_set_ _ _ _ _ (by rw [HTD.out.1]; exact hlt), getD_set_ _ _ _ _ (by rw [HTD.out.2.1]; exact hlt)]
          by_cases e : q = j
          · rw [if_pos e, if_pos e]; exact ⟨rfl, rfl⟩
          · rw [if_neg e, if_neg e]; exact HTD.out.2.2 q (by omega)
        · have d1 := (ST1.out (-1)).1
          obtain ⟨g2', e2', _, _, _, _, _, st⟩ := d1.D (j : Int) (by omega) (by simp only; omega)
          injection e2' with e2'
          injection e2' with e2'
          subst e2'
          exact (st (-1)).1
    · obtain rfl : j = l0.length := by omega
      obtain rfl := repl_of hTD.1 fun q hq => (hTD.2.2 q hq).1
      obtain rfl := repl_of hTD.2.1 fun q hq => (hTD.2.2 q hq).2
      have y0 : decide ((l0.length : Int) < (l0.length : Int)) = false := decide_eq_false (by omega)
      clear hTD hlt hj
      obtain ⟨T1, P1, hOP, hFin⟩ := idomF_parts HH.out
      have HOP := Aside0.mk hOP
      have HFIN := Aside0.mk hFin
      clear hOP hFin
      go_wp2_with (first
        | ((with_reducible refine gate_dst (N := 41) rfl ?_); refine Kd.S_make (Kd.slice 3 (Kd.int .i64)) (w0 := w) w.heap.size 27 rfl (N := 41) rfl 22 _ _ rfl (l0.length : Int) rfl rfl Try.underlying22 (.slice none 0 0) 24 DomA.infoS rfl (by decide) (by omega) [] (ok := fun k => w7.heap.size ≤ k) (okp := fun k => w7.heap.size ≤ k) ⟨_, rfl, Kd.R_nil _ _ _ _ _⟩ (fun _ hk => hk) hI.out.sz (by omega) (by have := HG1.out; omega) hI.out.below (below_size hI.out.below) ?_; intro v8 w8 ho8 hb8 hg8 hnew8; rw [Int.toNat_natCast] at ho8; obtain ⟨A3, c3, e3⟩ := Kd.S_slice ho8; rw [List.length_replicate] at e3; subst e3; have H8 := Aside0.mk (hI.out.other hg8 (fun k hk => by cases hk) hb8); have PS8 := Aside0.mk (show PS w w7.heap.size A3 l0.length c3 (List.replicate l0.length []) w8 from ho8); clear ho8 hb8 hg8 hnew8))
      clear hI
      have P0 := PS8
      go_loopw [44] (fun vi wr => ∃ (m : Nat) (T : List Int) (P : List (List Int)), vi = .int .i64 (m : Int) ∧ m ≤ ord.length ∧ Aside0 (outerP l0 (ord.drop m) m T P = some (T1, P1)) ∧ Aside0 (DI w ⟨bt, bi, A1, A2, c1, c2, l0.length, .slice Ao ord.length co, w1.heap.size, w2.heap.size, w7.heap.size⟩ T (List.replicate l0.length (-1)) ord wr) ∧ Aside0 (PS w w7.heap.size A3 l0.length c3 P wr)) (fun vi _ => ord.length - (intOf vi).toNat)
      case atStart => exact ⟨0, _, _, rfl, Nat.zero_le _, ⟨by rw [List.drop_zero]; exact HOP.out⟩, H8, PS8⟩
      case round =>
        obtain ⟨m, T, P, rfl, hm, hO, hI, hP⟩ := hrel
        clear HOP H8 PS8 P0
        by_cases hlt : m < ord.length
        · obtain ⟨ado, co', eO, _, hxo⟩ := hI.out.O (m : Int) (by omega) (by omega)
          obtain ⟨eO1, eO2⟩ : Ao = some ado ∧ co = co' := by simp only at eO; injection eO with a _ b; exact ⟨a, b⟩
          subst eO1
          subst eO2
          rw [Int.toNat_natCast] at hxo
          have hdrop : ord.drop m = rd ord (m : Int) :: ord.drop (m + 1) := by
            rw [List.drop_eq_getElem_cons hlt]
            simp [rd, hlt]
          have hq := hO.out
          rw [hdrop] at hq
          simp only [outerP] at hq
          clear hdrop hO eO
          generalize rd ord (m : Int) = i at hxo hq
          split at hq
          rotate_left
          · cases hq
          rename_i hi
          obtain ⟨hi0, hi1⟩ := hi
          obtain ⟨P2, hq1, hq2⟩ := Option.bind_eq_some_iff.mp hq
          have HQ1 := Aside0.mk hq1
          have HQ2 := Aside0.mk hq2
          clear hq hq1 hq2
          obtain ⟨g1, e1, n1, n2, n3, p1, p2, st1⟩ := hI.out.T i hi0 hi1
          simp only at e1 n1 n2
          subst e1
          obtain ⟨adn, A4, c4, eA, hxn, hl4, hr4⟩ := at_L HR0.out i hi0 (by omega)
          subst eA
          have hbn := World.block_lt_of_cell? _ _ hxn
          generalize hcs : rdL l0 i = cs at hxn hl4 hr4 HQ1
          have HR4 := Aside0.mk hr4
          have HXN := Aside0.mk hxn
          have ST1 := Aside0.mk st1
          have hgn : ord.length < 4611686018427387904 := by have := (DomA.order_guard HO.out).1; omega
          have hgc : cs.length < 4611686018427387904 := by rw [← hcs]; exact (DomA.order_guard HO.out).2 i
          clear hxn hr4 hcs hl4 hbn st1
          generalize rd T i = ta at p1
          have b1 : wr.cell? ⟨bt, 0, none⟩ = some (.slice (some ⟨g1, 0, none⟩) l0.length c1) := (blk_cell hI.out.ht 0).trans rfl
          have y0 : decide ((m : Int) < (ord.length : Int)) = true := decide_eq_true (by omega)
          have y1 : (m < ord.length) = True := eq_true hlt
          have q1 : (0 ≤ i) = True := eq_true hi0
          have q2 : (i < (l0.length : Int)) = True := eq_true hi1
          have hfz : (wr.setCell ⟨g1, i.toNat, none⟩ (.int .i64 (m : Int))).cell? (adn.add i.toNat) = some (.slice A4 cs.length c4) := (((ST1.out (m : Int)).1).below.cell (World.block_lt_of_cell? _ _ HXN.out)).trans HXN.out
          go_wp2
          obtain ⟨w9, hw⟩ : ∃ w9 : World, w9 = (wr.setCell ⟨g1, i.toNat, none⟩ (.int .i64 (m : Int))) := ⟨_, rfl⟩
          rw [← hw]
          have h9 : DI w ⟨bt, bi, some ⟨g1, 0, none⟩, A2, c1, c2, l0.length, .slice (some ado) ord.length co, w1.heap.size, w2.heap.size, w7.heap.size⟩ (T.set i.toNat (m : Int)) (List.replicate l0.length (-1)) ord w9 := (by rw [hw]; exact (ST1.out (m : Int)).1)
          have H9 := Aside0.mk h9
          have PS9 := Aside0.mk (hP.out.grown (show wr.grownBy w9 (some g1) by rw [hw]; exact (ST1.out (m : Int)).2) (fun k hk => by cases hk; exact n3))
          clear hw h9 hfz b1 p1 p2
          go_loopw [58] (fun vi wr => ∃ (j : Nat) (P' : List (List Int)), vi = .int .i64 (j : Int) ∧ j ≤ cs.length ∧ Aside0 (innerP l0.length i (cs.drop j) P' = some P2) ∧ Aside0 (DI w ⟨bt, bi, some ⟨g1, 0, none⟩, A2, c1, c2, l0.length, .slice (some ado) ord.length co, w1.heap.size, w2.heap.size, w7.heap.size⟩ (T.set i.toNat (m : Int)) (List.replicate l0.length (-1)) ord wr) ∧ Aside0 (PS w w7.heap.size A3 l0.length c3 P' wr)) (fun vi _ => cs.length - (intOf vi).toNat)
          case atStart => exact ⟨0, _, rfl, Nat.zero_le _, ⟨by rw [List.drop_zero]; exact HQ1.out⟩, H9, PS9⟩
          case round =>
            obtain ⟨j, P', rfl, hj, hQ, hI2, hP2⟩ := hrel
            clear H9 PS9 HQ1
            by_cases hlt2 : j < cs.length
            · obtain ⟨ad4, e4, hx4⟩ := Kd.at_int (Kd.C_below HR4.out hI2.out.below) (j : Int) (by omega) (by omega)
              rw [Int.toNat_natCast] at hx4
              subst e4
              have hdrop : cs.drop j = rd cs (j : Int) :: cs.drop (j + 1) := by
                rw [List.drop_eq_getElem_cons hlt2]
                simp [rd, hlt2]
              have hq := hQ.out
              rw [hdrop] at hq
              simp only [innerP] at hq
              clear hdrop hQ
              generalize rd cs (j : Int) = c at hx4 hq
              have y2 : decide ((j : Int) < (cs.length : Int)) = true := decide_eq_true (by omega)
              have y3 : (j < cs.length) = True := eq_true hlt2
              by_cases k0 : 0 ≤ c ∧ c < (l0.length : Int)
              · rw [if_pos k0] at hq
                split at hq
                rotate_left
                · cases hq
                rename_i hbig
                have HQ2' := Aside0.mk hq
                have HBIG := Aside0.mk hbig
                obtain ⟨k1, k2⟩ := k0
                clear hq hbig
                have k1b : decide (0 ≤ c) = true := decide_eq_true k1
                have k2b : decide (c < (l0.length : Int)) = true := decide_eq_true k2
                have k1t : (0 ≤ c) = True := eq_true k1
                have k2t : (c < (l0.length : Int)) = True := eq_true k2
                obtain ⟨g3, A5, c5, oki, e5, hs3, hw3, hx5, hr5, hok5, hput⟩ := hP2.out.elem c k1 k2
                subst e5
                have HR5 := Aside0.mk hr5
                have HOK5 := Aside0.mk hok5
                have HPUT := Aside0.mk hput
                clear hr5 hok5 hput k1 k2
                generalize rdL P' c = el at *
                go_wp2_with ((with_reducible refine gate_builtin (b := .append) (xs := #[.tmp 75, .tmp 77]) rfl ?_); (try (refine gate_guard (by rfl) ?_; dsimp only)); at_builtin; refine Kd.R_append (Kd.int .i64) (w0 := w) w.heap.size rfl (.tmp 75) (.tmp 77) 27 3 (.int .i64 0) 8 rfl Try.underlying27 DomA.infoI rfl (by decide) (by omega) (.slice A5 el.length c5) el i [.int .i64 i] (fun k_ => oki k_ ∨ w7.heap.size ≤ k_ ∧ wr.heap.size ≤ k_) (fun _ => False) rfl rfl ?aP (fun _ hk => hk.elim) ?aF ?aO ?aB ?aS ?aL ?_; (case aP => exact rfl); (case aB => exact hI2.out.below); (case aF => exact (fun k_ hk => .inr ⟨Nat.le_trans hI2.out.sz hk, hk⟩)); (case aO => exact Kd.R_mono HR5.out (fun _ hk => .inl hk)); (case aS => exact below_size hI2.out.below); (case aL => have := HBIG.out; omega); intro v10 w10 ho hb hg hat; obtain ⟨⟨u10, f10⟩, f11, hp10, hg10⟩ := HPUT.out w10 v10 _ ho hg; have d10 := hI2.out.other hg (fun k hk => HOK5.out k (HR5.out.1 k hk)) hb; have d11 := d10.other hg10 (fun k hk => by cases hk; exact hs3) (below_set hb hw3); have D11 := Aside0.mk d11; have P11 := Aside0.mk hp10; obtain ⟨A10, c10, e10⟩ := Kd.R_slice ho; subst e10; clear ho hb hg hat hp10 hg10 d10 d11)
                go_roundw
                case rel => exact ⟨j + 1, _, by go_num, hlt2, HQ2', ⟨by have := D11.out; rw [List.length_append] at this; exact this⟩, ⟨by have := P11.out; rw [List.length_append] at this; exact this⟩⟩
                case measure => simp [intOf]; omega
              · rw [if_neg k0] at hq
                have HQ2' := Aside0.mk hq
                clear hq
                by_cases k1 : 0 ≤ c
                · have k1b : decide (0 ≤ c) = true := decide_eq_true k1
                  have k2b : decide (c < (l0.length : Int)) = false := decide_eq_false (fun h => k0 ⟨k1, h⟩)
                  clear k0
                  go_wp2
                  go_roundw
                  case rel => exact ⟨j + 1, P', by go_num, hlt2, HQ2', hI2, hP2⟩
                  case measure => simp [intOf]; omega
                · have k1b : decide (0 ≤ c) = false := decide_eq_false k1
                  clear k0
                  go_wp2
                  go_roundw
                  case rel => exact ⟨j + 1, P', by go_num, hlt2, HQ2', hI2, hP2⟩
                  case measure => simp [intOf]; omega
            · obtain rfl : j = cs.length := by omega
              have hq := hQ.out
              rw [List.drop_length] at hq
              simp only [innerP, Option.some.injEq] at hq
              subst hq
              have y2 : decide ((cs.length : Int) < (cs.length : Int)) = false := decide_eq_false (by omega)
              clear hlt2 hj hQ
              go_wp2
              go_roundw
              case rel => exact ⟨m + 1, _, _, by go_num, hlt, HQ2, hI2, hP2⟩
              case measure => simp [intOf]; omega
        · obtain rfl : m = ord.length := by omega
          have hq := hO.out
          rw [List.drop_length] at hq
          simp only [outerP, Option.some.injEq, Prod.mk.injEq] at hq
          obtain ⟨rfl, rfl⟩ := hq
          have y0 : decide ((ord.length : Int) < (ord.length : Int)) = false := decide_eq_false (by omega)
          have b2 : wr.cell? ⟨bi, 0, none⟩ = some (.slice A2 l0.length c2) := (blk_cell hI.out.hd 0).trans rfl
          clear hlt hm hO
          rcases HFIN.out with ⟨h0, rfl⟩ | ⟨h0, Df, hdf, rfl⟩
          · have y1 : ((ord.length : Int) == 0) = true := beq_iff_eq.mpr (by omega)
            have y2 : (ord.length : Int) = 0 := by omega
            have HRD := Aside0.mk (Kd.R_mono hI.out.rd (fun _ _ => trivial) : Kd.R (Kd.int .i64) 3 wr w.heap.size (fun _ => True) _ _)
            go_wp2
            go_ret
            exact ⟨_, rfl, HRD.out, hI.out.below⟩
          · have y1 : ((ord.length : Int) == 0) = false := beq_eq_false_iff_ne.mpr (by omega)
            have y2 : ¬ ((ord.length : Int) = 0) := by omega
            have hn := DomA.order_pos HO.out h0
            have HN := Aside0.mk hn
            have HDF := Aside0.mk hdf
            have H0 := Aside0.mk h0
            clear hdf h0
            obtain ⟨g2, e2, n4, n5, n6, p3, p4, st2⟩ := hI.out.D 0 (by omega) (by simp only; omega)
            obtain ⟨g1, e1, n1, n2, n3, _, _, _⟩ := hI.out.T 0 (by omega) (by simp only; omega)
            simp only at e1 e2 n1 n2 n4 n5
            subst e1
            subst e2
            rw [show (0 : Int).toNat = 0 from rfl] at p3 p4 st2
            have ST2 := Aside0.mk st2
            clear st2
            have z5 : (0 < l0.length) = True := eq_true hn
            have z6 : ((0 : Int) < (l0.length : Int)) = True := eq_true (by omega)
            have hmf : ∀ (fn : Fn) (first cap : Array Value) (w : World), (Instr.makeFunc fn first cap).run Try.prog w = .ok (.func fn first cap) w := fun _ _ _ _ => rfl
            obtain ⟨ado, co', eO, hco, _⟩ := hI.out.O 0 (by omega) (by have := H0.out; omega)
            obtain ⟨eO1, eO2⟩ : Ao = some ado ∧ co = co' := by simp only at eO; injection eO with a _ b; exact ⟨a, b⟩
            subst eO1
            subst eO2
            clear eO
            obtain ⟨go, coo, eO, _, _, _⟩ := Kd.R_form hI.out.ro (by have := H0.out; omega)
            obtain rfl : ado = ⟨go, 0, none⟩ := by simp only at eO; injection eO with a; injection a
            clear eO
            go_wp2
            obtain ⟨w9, hw⟩ : ∃ w9 : World, w9 = (wr.setCell ⟨g2, 0, none⟩ (.int .i64 0)) := ⟨_, rfl⟩
            rw [← hw]
            have H9 : Aside0 (DI w ⟨bt, bi, some ⟨g1, 0, none⟩, some ⟨g2, 0, none⟩, c1, c2, l0.length, .slice (some ⟨go, 0, none⟩) ord.length co, w1.heap.size, w2.heap.size, w7.heap.size⟩ T ((List.replicate l0.length (-1)).set 0 0) ord w9) := ⟨by rw [hw]; exact (ST2.out 0).1⟩
            have PS9 : Aside0 (PS w w7.heap.size A3 l0.length c3 P w9) := ⟨hP.out.grown (show wr.grownBy w9 (some g2) by rw [hw]; exact (ST2.out 0).2) (fun k hk => by cases hk; exact n6)⟩
            clear hw b2 p3 p4 hI hP hmf
            by_cases ec : co = 1
            · subst ec
              go_loopg [13] k (fun kq v13 w' => ∃ (more : Bool) (D : List Int), v13 = .bool more ∧ Aside0 ((more = true → roundsF k T P ord.tail kq D = some Df) ∧ (more = false → D = Df)) ∧ Aside0 (DI w ⟨bt, bi, some ⟨g1, 0, none⟩, some ⟨g2, 0, none⟩, c1, c2, l0.length, .slice (some ⟨go, 0, none⟩) ord.length 1, w1.heap.size, w2.heap.size, w7.heap.size⟩ T D ord w') ∧ Aside0 (PS w w7.heap.size A3 l0.length c3 P w'))
              case atStart => exact ⟨true, _, rfl, ⟨⟨fun _ => HDF.out, fun h => by cases h⟩⟩, H9, PS9⟩
              case round =>
                clear H9 PS9 HDF
                obtain ⟨more, D, rfl, HA, hI, hP⟩ := hrel
                cases more with
                | false =>
                  obtain rfl := HA.out.2 rfl
                  obtain ⟨g2', e2', _, _, _, p3, p4, st2⟩ := hI.out.D 0 (by omega) (by simp only; have := HN.out; omega)
                  obtain rfl : g2 = g2' := by simp only at e2'; injection e2' with e2'; injection e2' with e2'
                  rw [show (0 : Int).toNat = 0 from rfl] at p3 p4 st2
                  have ST2 := Aside0.mk (st2 (-1)).1
                  have b2 : wr.cell? ⟨bi, 0, none⟩ = some (.slice (some ⟨g2, 0, none⟩) l0.length c2) := (blk_cell hI.out.hd 0).trans rfl
                  clear st2
                  go_wp2
                  go_ret
                  exact ⟨_, rfl, Kd.R_mono ST2.out.rd (fun _ _ => trivial), ST2.out.below⟩
                | true =>
                  have hA := HA.out.1 rfl
                  cases gk with
                  | zero => cases hA
                  | succ k1 =>
                    simp only [roundsF] at hA
                    obtain ⟨⟨D2, more2⟩, hp, hA⟩ := Option.bind_eq_some_iff.mp hA
                    have HP1 := Aside0.mk hp
                    have HA2 := Aside0.mk hA
                    clear hA hp HA
                    have x1 : ((1 : Int) ≤ (ord.length : Int)) := by have := H0.out; omega
                    have x3 : 1 ≤ ord.length := by omega
                    have x2 : ((ord.length : Int) ≤ ((1 : Nat) : Int)) := by omega
                    have x4 : ord.length = 1 := by omega
                    have hp := HP1.out
                    have ht : ord.tail = [] := List.eq_nil_of_length_eq_zero (by rw [List.length_tail]; omega)
                    rw [ht] at hp
                    simp only [passF, Option.some.injEq, Prod.mk.injEq] at hp
                    obtain ⟨rfl, rfl⟩ := hp
                    have hA := HA2.out
                    simp only [Bool.false_eq_true, if_false, Option.some.injEq] at hA
                    have X6 := Aside0.mk (show ¬ (0 < ord.length - 1) by omega)
                    clear x4 ht
                    go_wp2
                    go_loopw [93, 13] (fun vi vm wr => ∃ (z : Nat), vi = .int .i64 (z : Int) ∧ vm = .bool false ∧ z = 0 ∧ Aside0 (DI w ⟨bt, bi, some ⟨g1, 0, none⟩, some ⟨g2, 0, none⟩, c1, c2, l0.length, .slice (some ⟨go, 0, none⟩) ord.length 1, w1.heap.size, w2.heap.size, w7.heap.size⟩ T D ord wr) ∧ Aside0 (PS w w7.heap.size A3 l0.length c3 P wr)) (fun vi _ _ => 0 - (intOf vi).toNat)
                    case atStart => exact ⟨0, rfl, rfl, rfl, hI, hP⟩
                    case round =>
                      obtain ⟨z, rfl, rfl, rfl, hI2, hP2⟩ := hrel
                      have x7 : decide (((0 : Nat) : Int) < ((ord.length - 1 : Nat) : Int)) = false := decide_eq_false (by have := X6.out; omega)
                      go_wp2
                      go_roundg k1
                      case measure => omega
                      case rel => exact ⟨false, D, rfl, ⟨⟨fun h => by (cases h), fun _ => hA⟩⟩, hI2, hP2⟩
            · go_loopg [13] k (fun kq v13 w' => ∃ (more : Bool) (D : List Int), v13 = .bool more ∧ Aside0 ((more = true → roundsF k T P ord.tail kq D = some Df) ∧ (more = false → D = Df)) ∧ Aside0 (DI w ⟨bt, bi, some ⟨g1, 0, none⟩, some ⟨g2, 0, none⟩, c1, c2, l0.length, .slice (some ⟨go, 0, none⟩) ord.length co, w1.heap.size, w2.heap.size, w7.heap.size⟩ T D ord w') ∧ Aside0 (PS w w7.heap.size A3 l0.length c3 P w'))
              case atStart => exact ⟨true, _, rfl, ⟨⟨fun _ => HDF.out, fun h => by cases h⟩⟩, H9, PS9⟩
              case round =>
                clear H9 PS9 HDF
                obtain ⟨more, D, rfl, HA, hI, hP⟩ := hrel
                cases more with
                | false =>
                  obtain rfl := HA.out.2 rfl
                  obtain ⟨g2', e2', _, _, _, p3, p4, st2⟩ := hI.out.D 0 (by omega) (by simp only; have := HN.out; omega)
                  obtain rfl : g2 = g2' := by simp only at e2'; injection e2' with e2'; injection e2' with e2'
                  rw [show (0 : Int).toNat = 0 from rfl] at p3 p4 st2
                  have ST2 := Aside0.mk (st2 (-1)).1
                  have b2 : wr.cell? ⟨bi, 0, none⟩ = some (.slice (some ⟨g2, 0, none⟩) l0.length c2) := (blk_cell hI.out.hd 0).trans rfl
                  clear st2
                  go_wp2
                  go_ret
                  exact ⟨_, rfl, Kd.R_mono ST2.out.rd (fun _ _ => trivial), ST2.out.below⟩
                | true =>
                  have hA := HA.out.1 rfl
                  cases gk with
                  | zero => cases hA
                  | succ k1 =>
                    simp only [roundsF] at hA
                    obtain ⟨⟨D2, more2⟩, hp, hA⟩ := Option.bind_eq_some_iff.mp hA
                    have HP1 := Aside0.mk hp
                    have HA2 := Aside0.mk hA
                    clear hA hp HA
                    have x1 : ((1 : Int) ≤ (ord.length : Int)) := by have := H0.out; omega
                    have x3 : 1 ≤ ord.length := by omega
                    have x2 : ((ord.length : Int) ≤ (co : Int)) := by omega
                    have x4 : ¬ ((co : Int) = 1) := by omega
                    have hOT : ∀ (j : Nat), j < ord.tail.length → ∀ W T' D', DI w ⟨bt, bi, some ⟨g1, 0, none⟩, some ⟨g2, 0, none⟩, c1, c2, l0.length, .slice (some ⟨go, 0, none⟩) ord.length co, w1.heap.size, w2.heap.size, w7.heap.size⟩ T' D' ord W → W.cell? ⟨go, 1 + j, none⟩ = some (.int .i64 (rd ord.tail (j : Int))) := by
                      intro j hj W T' D' h
                      rw [List.length_tail] at hj
                      obtain ⟨ad, c, e, _, hx⟩ := h.O ((j : Int) + 1) (by omega) (by omega)
                      obtain rfl : (⟨go, 0, none⟩ : Addr) = ad := by simp only at e; injection e with a; injection a
                      rw [show ((j : Int) + 1).toNat = j + 1 by omega] at hx
                      have e2 : rd ord.tail (j : Int) = rd ord ((j : Int) + 1) := by
                        simp only [rd, Int.toNat_natCast, show ((j : Int) + 1).toNat = j + 1 by omega]
                        simp [List.getD_eq_getElem?_getD]
                      rw [e2, ← hx]
                      simp [Addr.add, Nat.add_comm]
                    have HOT := Aside0.mk hOT
                    have htl : ord.tail.length = ord.length - 1 := List.length_tail
                    clear hOT
                    generalize ord.tail = tl at *
                    go_wp2
                    rw [← htl]
                    have HTL := Aside0.mk htl
                    clear htl
                    have HI0 := hI
                    go_loopw [93, 13] (fun vi vm wr => ∃ (j m : Nat) (D' : List Int), vi = .int .i64 (j : Int) ∧ vm = .bool (DomA.flag m) ∧ j ≤ tl.length ∧ Aside0 (passF k T P (tl.drop j) D' (DomA.flag m) = some (D2, more2)) ∧ Aside0 (DI w ⟨bt, bi, some ⟨g1, 0, none⟩, some ⟨g2, 0, none⟩, c1, c2, l0.length, .slice (some ⟨go, 0, none⟩) ord.length co, w1.heap.size, w2.heap.size, w7.heap.size⟩ T D' ord wr) ∧ Aside0 (PS w w7.heap.size A3 l0.length c3 P wr)) (fun vi _ _ => tl.length - (intOf vi).toNat)
                    case atStart => exact ⟨0, 0, D, rfl, rfl, Nat.zero_le _, ⟨by rw [List.drop_zero]; exact HP1.out⟩, hI, hP⟩
                    case round =>
                      obtain ⟨j, m, D', rfl, rfl, hj, hQ, hI2, hP2⟩ := hrel
                      clear HP1 hI hP HI0
                      by_cases hlt : j < tl.length
                      · have hxo := HOT.out j hlt _ _ _ hI2.out
                        have hdrop : tl.drop j = rd tl (j : Int) :: tl.drop (j + 1) := by
                          rw [List.drop_eq_getElem_cons hlt]
                          simp [rd, hlt]
                        have hq := hQ.out
                        rw [hdrop] at hq
                        simp only [passF] at hq
                        clear hdrop hQ
                        generalize rd tl (j : Int) = i at hxo hq
                        split at hq
                        rotate_left
                        · cases hq
                        rename_i hi
                        obtain ⟨hi0, hi1, hpn⟩ := hi
                        obtain ⟨b, hq1, hq2⟩ := Option.bind_eq_some_iff.mp hq
                        have HQ1 := Aside0.mk hq1
                        have HQ2 := Aside0.mk hq2
                        clear hq hq1 hq2
                        have hlD : D'.length = l0.length := (Kd.R_reads' hI2.out.rd).1.symm
                        have y0 : decide ((j : Int) < (tl.length : Int)) = true := decide_eq_true (by omega)
                        have y1 : (j < tl.length) = True := eq_true hlt
                        have hi2 : i < (l0.length : Int) := by omega
                        have q1 : (0 ≤ i) = True := eq_true hi0
                        have q2 : (i < (l0.length : Int)) = True := eq_true hi2
                        obtain ⟨g3, A5, c5, oki, e5, hs3, hw3, hx5, hr5, hok5, _⟩ := hP2.out.elem i hi0 hi2
                        subst e5
                        have HR5 := Aside0.mk hr5
                        have hpl := (Kd.R_reads' hr5).1
                        clear hr5
                        generalize rdL P i = ps at *
                        have htn : tl.length < 4611686018427387904 := by have := (DomA.order_guard HO.out).1; have := HTL.out; omega
                        go_wp2
                        go_loopw [102, 16] (fun vq vb wr => ∃ (q : Nat) (bb : Int), vq = .int .i64 (q : Int) ∧ vb = .int .i64 bb ∧ q ≤ ps.length ∧ Aside0 (bestF k T D' (ps.drop q) bb = some b) ∧ Aside0 (DI w ⟨bt, bi, some ⟨g1, 0, none⟩, some ⟨g2, 0, none⟩, c1, c2, l0.length, .slice (some ⟨go, 0, none⟩) ord.length co, w1.heap.size, w2.heap.size, w7.heap.size⟩ T D' ord wr) ∧ Aside0 (PS w w7.heap.size (some ⟨g3, 0, none⟩) l0.length c3 P wr) ∧ Aside0 (Kd.R (Kd.int .i64) 3 wr w.heap.size oki (.slice A5 ps.length c5) ps)) (fun vq _ _ => ps.length - (intOf vq).toNat)
                        case atStart => exact ⟨0, -1, rfl, rfl, Nat.zero_le _, ⟨by rw [List.drop_zero]; exact HQ1.out⟩, hI2, hP2, HR5⟩
                        case round =>
                          obtain ⟨q, bb, rfl, rfl, hq, hQ, hI3, hP3, hR3⟩ := hrel
                          clear HQ1 hI2 hP2 HR5 hxo hx5
                          by_cases hlt2 : q < ps.length
                          · obtain ⟨ad5, e5, hx6⟩ := Kd.at_int (Kd.R_reads' hR3.out).2.2 (q : Int) (by omega) (by omega)
                            rw [Int.toNat_natCast] at hx6
                            subst e5
                            have hdrop : ps.drop q = rd ps (q : Int) :: ps.drop (q + 1) := by
                              rw [List.drop_eq_getElem_cons hlt2]
                              simp [rd, hlt2]
                            have hz := hQ.out
                            rw [hdrop] at hz
                            simp only [bestF] at hz
                            clear hdrop hQ
                            generalize rd ps (q : Int) = p at hx6 hz
                            split at hz
                            rotate_left
                            · cases hz
                            rename_i hp
                            obtain ⟨hp0, hp1⟩ := hp
                            have hp2 : p < (l0.length : Int) := by omega
                            obtain ⟨g2', e2', _, _, _, p3, _, _⟩ := hI3.out.D p hp0 (by simp only; omega)
                            obtain rfl : g2 = g2' := by simp only at e2'; injection e2' with e2'; injection e2' with e2'
                            have b2 : wr.cell? ⟨bi, 0, none⟩ = some (.slice (some ⟨g2, 0, none⟩) l0.length c2) := (blk_cell hI3.out.hd 0).trans rfl
                            have y2 : decide ((q : Int) < (ps.length : Int)) = true := decide_eq_true (by omega)
                            have y3 : (q < ps.length) = True := eq_true hlt2
                            have q3 : (0 ≤ p) = True := eq_true hp0
                            have q4 : (p < (l0.length : Int)) = True := eq_true hp2
                            clear e2' hp0 hp1 hp2
                            by_cases d0 : rd D' p < 0
                            · rw [if_pos d0] at hz
                              have d1 : decide (rd D' p < 0) = true := decide_eq_true d0
                              have HZ := Aside0.mk hz
                              clear d0 hz
                              generalize rd D' p = dp at *
                              go_wp2
                              go_roundw
                              case rel => exact ⟨q + 1, bb, by go_num, rfl, hlt2, HZ, hI3, hP3, hR3⟩
                              case measure => simp [intOf]; omega
                            · rw [if_neg d0] at hz
                              have d1 : decide (rd D' p < 0) = false := decide_eq_false d0
                              clear d0
                              by_cases d2 : bb < 0
                              · rw [if_pos d2] at hz
                                have d3 : decide (bb < 0) = true := decide_eq_true d2
                                have HZ := Aside0.mk hz
                                clear d2 hz
                                generalize rd D' p = dp at *
                                go_wp2
                                go_roundw
                                case rel => exact ⟨q + 1, p, by go_num, rfl, hlt2, HZ, hI3, hP3, hR3⟩
                                case measure => simp [intOf]; omega
                              · rw [if_neg d2] at hz
                                have d3 : decide (bb < 0) = false := decide_eq_false d2
                                obtain ⟨mm, hm, hz⟩ := Option.bind_eq_some_iff.mp hz
                                have HZ := Aside0.mk hz
                                have HM := Aside0.mk (meet_calls T D' bt bi g1 g2 c1 c2 l0.length w.heap.size _ _ k bb p mm wr hm (Kd.R_reads' hI3.out.rt).1.symm hlD hI3.out.ht hI3.out.hd hI3.out.rt hI3.out.rd)
                                clear d2 hz hm
                                generalize rd D' p = dp at *
                                go_wp2_with (go_at_call 74; refine HM.out.mono ?_; rintro e w' ⟨rfl, ⟨nd, rfl⟩⟩)
                                go_roundw
                                case rel => exact ⟨q + 1, mm, by go_num, rfl, hlt2, HZ, ⟨hI3.out.drewN nd⟩, ⟨hP3.out.drewN nd⟩, ⟨Kd.R_drewN hR3.out nd⟩⟩
                                case measure => simp [intOf]; omega
                          · obtain rfl : q = ps.length := by omega
                            have hz := hQ.out
                            rw [List.drop_length] at hz
                            simp only [bestF, Option.some.injEq] at hz
                            subst hz
                            have y2 : decide ((ps.length : Int) < (ps.length : Int)) = false := decide_eq_false (by omega)
                            obtain ⟨g2', e2', _, _, _, p3, p4, st2⟩ := hI3.out.D i hi0 (by simp only; omega)
                            obtain rfl : g2 = g2' := by simp only at e2'; injection e2' with e2'; injection e2' with e2'
                            have ST2 := Aside0.mk (st2 bb)
                            have b2 : wr.cell? ⟨bi, 0, none⟩ = some (.slice (some ⟨g2, 0, none⟩) l0.length c2) := (blk_cell hI3.out.hd 0).trans rfl
                            have hq2 := HQ2.out
                            clear st2 e2' hlt2 hq hQ
                            by_cases d0 : bb = rd D' i
                            · rw [if_pos d0] at hq2
                              have HZ := Aside0.mk hq2
                              have d1 : (bb != rd D' i) = false := bne_eq_false_iff_eq.mpr d0
                              have d2 : (bb == rd D' i) = true := beq_iff_eq.mpr d0
                              clear hq2 d0 p4
                              generalize rd D' i = di at *
                              go_wp2
                              go_roundw
                              case rel => exact ⟨j + 1, m, D', by go_num, rfl, hlt, HZ, hI3, hP3⟩
                              case measure => simp [intOf]; omega
                            · rw [if_neg d0] at hq2
                              have HZ := Aside0.mk hq2
                              have d1 : (bb != rd D' i) = true := bne_iff_ne.mpr d0
                              have d2 : (bb == rd D' i) = false := beq_eq_false_iff_ne.mpr d0
                              clear hq2 d0
                              generalize rd D' i = di at *
                              go_wp2
                              go_roundw
                              case rel => exact ⟨j + 1, 1, _, by go_num, rfl, hlt, HZ, ⟨ST2.out.1⟩, ⟨hP3.out.grown ST2.out.2 (fun k hk => by cases hk; exact n6)⟩⟩
                              case measure => simp [intOf]; omega
                      · obtain rfl : j = tl.length := by omega
                        have hq := hQ.out
                        rw [List.drop_length] at hq
                        simp only [passF, Option.some.injEq, Prod.mk.injEq] at hq
                        obtain ⟨rfl, rfl⟩ := hq
                        have y0 : decide ((tl.length : Int) < (tl.length : Int)) = false := decide_eq_false (by omega)
                        clear hlt hj hQ
                        go_wp2
                        go_roundg k1
                        case measure => omega
                        case rel =>
                          refine ⟨DomA.flag m, D', rfl, ⟨⟨fun h => ?_, fun h => ?_⟩⟩, hI2, hP2⟩
                          · have := HA2.out; rw [if_pos h] at this; exact this
                          · have := HA2.out; rw [if_neg (by rw [h]; decide)] at this; exact Option.some.inj this
namespace DomA
theorem meetF_mono (T D : List Int) : ∀ K a b m, meetF T D K a b = some m → meetF T D (K + 1) a b = some m := by
  intro K
  induction K with
  | zero => intro a b m h; cases h
  | succ K ih =>
    intro a b m h
    rw [meetF] at h ⊢
    split
    · rename_i hc; rw [if_pos hc] at h; exact h
    · rename_i hc
      rw [if_neg hc] at h
      split
      · rename_i hd
        rw [if_pos hd] at h
        split
        · rename_i he; rw [if_pos he] at h; exact ih _ _ _ h
        · rename_i he; rw [if_neg he] at h; exact ih _ _ _ h
      · rename_i hd; rw [if_neg hd] at h; cases h
theorem bestF_mono (K : Nat) (T D : List Int) : ∀ ps b r, bestF K T D ps b = some r → bestF (K + 1) T D ps b = some r := by
  intro ps
  induction ps with
  | nil => intro b r h; exact h
  | cons p ps ih =>
    intro b r h
    simp only [bestF] at h ⊢
    split at h
    rotate_left
    · cases h
    rename_i hc
    rw [if_pos hc]
    split at h
    · rename_i hd; rw [if_pos hd]; exact ih _ _ h
    · rename_i hd
      rw [if_neg hd]
      split at h
      · rename_i he; rw [if_pos he]; exact ih _ _ h
      · rename_i he
        rw [if_neg he]
        obtain ⟨m, hm, h⟩ := Option.bind_eq_some_iff.mp h
        rw [meetF_mono _ _ _ _ _ _ hm]
        exact ih _ _ h
theorem passF_mono (K : Nat) (T : List Int) (P : List (List Int)) : ∀ is D more r, passF K T P is D more = some r → passF (K + 1) T P is D more = some r := by
  intro is
  induction is with
  | nil => intro D more r h; exact h
  | cons i is ih =>
    intro D more r h
    simp only [passF] at h ⊢
    split at h
    rotate_left
    · cases h
    rename_i hc
    rw [if_pos hc]
    obtain ⟨b, hb, h⟩ := Option.bind_eq_some_iff.mp h
    rw [bestF_mono _ _ _ _ _ _ hb]
    simp only [Option.bind_some]
    split at h
    · rename_i hd; rw [if_pos hd]; exact ih _ _ _ h
    · rename_i hd; rw [if_neg hd]; exact ih _ _ _ h
theorem roundsF_mono (K : Nat) (T : List Int) (P : List (List Int)) (ord : List Int) : ∀ R D r, roundsF K T P ord R D = some r → roundsF (K + 1) T P ord (R + 1) D = some r := by
  intro R
  induction R with
  | zero => intro D r h; cases h
  | succ R ih =>
    intro D r h
    rw [roundsF] at h ⊢
    obtain ⟨p, hp, h⟩ := Option.bind_eq_some_iff.mp h
    rw [passF_mono _ _ _ _ _ _ _ hp]
    simp only [Option.bind_some]
    split at h
    · rename_i hd; rw [if_pos hd]; exact ih _ _ h
    · rename_i hd; rw [if_neg hd]; exact h
end DomA
theorem dom_Idom.mono : ∀ a0 k, LeO (dom_Idom.f k a0) (dom_Idom.f (k + 1) a0) := by
  intro a0 k r h
  unfold dom_Idom.f at h ⊢
  split at h
  rotate_left
  · cases h
  rename_i hc
  rw [if_pos hc]
  obtain ⟨ord, ho, h⟩ := Option.bind_eq_some_iff.mp h
  rw [ho]
  simp only [Option.bind_some]
  unfold idomF at h ⊢
  split at h
  · rename_i hd; rw [if_pos hd]; exact h
  · rename_i hd
    rw [if_neg hd]
    obtain ⟨TP, ht, h⟩ := Option.bind_eq_some_iff.mp h
    rw [ht]
    simp only [Option.bind_some]
    obtain ⟨Df, hD, h⟩ := Option.map_eq_some_iff.mp h
    rw [roundsF_mono _ _ _ _ _ _ _ hD, ← h]
    rfl
end Go.Proofs.Ytfiffhcpgojkhaa
