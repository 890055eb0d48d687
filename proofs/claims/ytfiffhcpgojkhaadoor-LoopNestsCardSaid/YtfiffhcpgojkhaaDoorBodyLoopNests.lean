/- loop.body by hand, with its closure, over the printed sets of bits. No condition but that the rows are short. -/
import Derived.Test.YtfiffhcpgojkhaaDoorQLoopNestsx2
import Derived.Test.YtfiffhcpgojkhaaDoorQu
namespace Go.Proofs.YtfiffhcpgojkhaaDoor.QLoopNests
open Go.RowKit Go.Proofs.YtfiffhcpgojkhaaDoor Go.Proofs.YtfiffhcpgojkhaaDoorW.PrintWords Go.Proofs.YtfiffhcpgojkhaaDoorW.PrintLast Go.Proofs.YtfiffhcpgojkhaaDoorW.PrintMore
set_option linter.unusedVariables false
set_option linter.unusedSimpArgs false
/-- What waits, and what is met, behind a place. -/
def waitF (s : Int × List Int) (q : List Int) (i : Int) : Option ((Int × List Int) × List Int) := (bits_Set_Has.f s.1 s.2 i).bind fun h => if h = true then some (s, q) else if q.length < 17592186044416 then (bits_Set_With.f s.1 s.2 i).bind fun m => some (m, q ++ [i]) else none
def waitsF : List Int → Int × List Int → List Int → Option ((Int × List Int) × List Int)
 | [], s, q => some (s, q)
 | i :: is, s, q => (waitF s q i).bind fun p => waitsF is p.1 p.2
def goF (P : List (List Int)) : Nat → Int × List Int → List Int → Option (Int × List Int)
 | 0, _, _ => none
 | K + 1, s, [] => some s
 | K + 1, s, i :: q => if 0 ≤ i ∧ i < (P.length : Int) ∧ (DomA.rdL P i).length < 4611686018427387904 then (waitsF (DomA.rdL P i) s q).bind fun p => goF P K p.1 p.2 else none
def loop_body.f (k : Nat) (P : List (List Int)) (head : Int) (fr : List Int) : Option (List Int) :=
  if fr.length < 4611686018427387904 then (bits_New.f (P.length : Int)).bind fun s0 => (bits_Set_With.f s0.1 s0.2 head).bind fun s1 => (waitsF fr s1 []).bind fun p => (goF P k p.1 p.2).bind fun s => bits_Set_List.f k s.1 s.2 else none
structure BX (w0 : World) (bm bw : Nat) (room : Int) (A : Option Addr) (c : Nat) (L : List Int) (vq : Value) (q : List Int) (m : Nat → Prop) (W : World) : Prop where
  below : Below w0.heap.size w0 W
  lm : w0.heap.size ≤ bm
  lw : w0.heap.size ≤ bw
  hm : W.heap[bm]? = some (.cells #[.int .i64 room, .slice A L.length c] 60 (0, 0))
  hw : W.heap[bw]? = some (.cells #[vq] 26 (0, 0))
  v : Kd.V (Kd.int .u64) 74 W w0.heap.size m (.slice A L.length c) L
  r : Qu.R W w0.heap.size vq q
  nm : ¬ m bm
  nw : ¬ m bw
  nq : ∀ k, vq.ownBlock = some k → ¬ m k
section
variable {w0 W W2 w1 : World} {bm bw : Nat} {room : Int} {A : Option Addr} {c : Nat} {L : List Int} {vq : Value} {q : List Int} {m : Nat → Prop}
theorem BX.ne (h : BX w0 bm bw room A c L vq q m W) : bm ≠ bw := DomA.ne_of_type h.hm h.hw (by decide)
theorem BX.qm (h : BX w0 bm bw room A c L vq q m W) : ∀ k, vq.ownBlock = some k → k ≠ bm ∧ k ≠ bw := fun k e => by
  obtain ⟨_, cs, hc⟩ := h.r.typed k e
  exact ⟨DomA.ne_of_type hc h.hm (by decide), DomA.ne_of_type hc h.hw (by decide)⟩
theorem BX.over (h : BX w0 bm bw room A c L vq q m W) (hb : Below W.heap.size W W2) : BX w0 bm bw room A c L vq q m W2 :=
  ⟨below_step h.below hb, h.lm, h.lw, blk_below h.hm hb, blk_below h.hw hb, Kd.V_below h.v hb, h.r.kept (grown_of_below hb none) (fun k _ e => by cases e), h.nm, h.nw, h.nq⟩
theorem BX.put (h : BX w0 bm bw room A c L vq q m W) (hb : Below W.heap.size W W2) {room2 : Int} {A2 : Option Addr} {c2 : Nat} {L2 : List Int} (hv : Kd.V (Kd.int .u64) 74 W2 W.heap.size (fun k => m k ∨ W.heap.size ≤ k) (.slice A2 L2.length c2) L2) :
    BX w0 bm bw room2 A2 c2 L2 vq q (fun k => m k ∨ W.heap.size ≤ k) ((W2.setCell ⟨bm, 0, none⟩ (.int .i64 room2)).setCell ⟨bm, 1, none⟩ (.slice A2 L2.length c2)) := by
  have hne := h.ne
  have hqm := h.qm
  have ho := h.over hb
  have lm := blk_lt h.hm
  have lw := blk_lt h.hw
  have g1 : W2.grownBy (W2.setCell ⟨bm, 0, none⟩ (.int .i64 room2)) (some bm) := ⟨rfl, rfl, rfl, by simp [World.setCell], fun k _ hk => Below.heap_setCell _ _ _ k (fun e => hk (by rw [e]))⟩
  have g2 : (W2.setCell ⟨bm, 0, none⟩ (.int .i64 room2)).grownBy ((W2.setCell ⟨bm, 0, none⟩ (.int .i64 room2)).setCell ⟨bm, 1, none⟩ (.slice A2 L2.length c2)) (some bm) := ⟨rfl, rfl, rfl, by simp [World.setCell], fun k _ hk => Below.heap_setCell _ _ _ k (fun e => hk (by rw [e]))⟩
  have g := World.grownBy.trans g1 g2
  have hm0 : ∀ k, (m k ∨ W.heap.size ≤ k) → k ≠ bm := by
    rintro k (hk | hk) rfl
    · exact h.nm hk
    · omega
  refine ⟨below_set (below_set ho.below h.lm) h.lm, h.lm, h.lw, blk_put (blk_put ho.hm 0 _ rfl) 1 _ rfl, blk_grown ho.hw g (fun e => hne (by injection e with e; exact e.symm)), Kd.V_far (Kd.V_far (hv) hm0 _) hm0 _, ho.r.kept g (fun k e e2 => (hqm k e).1 (by injection e2)), ?_, ?_, ?_⟩
  · rintro (hk | hk)
    · exact h.nm hk
    · omega
  · rintro (hk | hk)
    · exact h.nw hk
    · omega
  · rintro k e (hk | hk)
    · exact h.nq k e hk
    · obtain ⟨_, cs, hc⟩ := h.r.typed k e
      have := blk_lt hc
      omega
theorem BX.app (h : BX w0 bm bw room A c L vq q m W) {vq' : Value} {q' : List Int} (hR : Qu.R w1 w0.heap.size vq' q') (hb : Below w0.heap.size w0 w1) (hg : W.grownBy w1 vq.ownBlock) (hat : vq'.ownBlock = vq.ownBlock ∨ ∃ b, vq'.ownBlock = some b ∧ W.heap.size ≤ b) :
    BX w0 bm bw room A c L vq' q' (fun k => m k ∧ k < W.heap.size) (w1.setCell ⟨bw, 0, none⟩ vq') := by
  have hne := h.ne
  have k1 := blk_grown h.hm hg (fun e => (h.qm bm e.symm).1 rfl)
  have k2 := blk_grown h.hw hg (fun e => (h.qm bw e.symm).2 rfl)
  have g1 : w1.grownBy (w1.setCell ⟨bw, 0, none⟩ vq') (some bw) := ⟨rfl, rfl, rfl, by simp [World.setCell], fun k _ hk => Below.heap_setCell _ _ _ k (fun e => hk (by rw [e]))⟩
  have v1 := Kd.V_grown (Kd.V_bound h.v) hg (fun k hk e => h.nq k e.symm hk.1)
  refine ⟨below_set hb h.lw, h.lm, h.lw, blk_far k1 hne _, blk_put k2 0 _ rfl, Kd.V_far v1 (fun k hk e => h.nw (by simp only at e; rw [← e]; exact hk.1)) _, hR.kept g1 (fun k e e2 => ?_), fun hk => h.nm hk.1, fun hk => h.nw hk.1, fun k e hk => ?_⟩
  · injection e2 with e2
    obtain ⟨_, cs, hc⟩ := hR.typed k e
    rw [e2] at hc
    exact DomA.ne_of_type hc k2 (by decide) rfl
  · rcases hat with e2 | ⟨b, e2, hb2⟩
    · exact h.nq k (e2 ▸ e) hk.1
    · rw [e] at e2
      injection e2 with e2
      omega
end
def BS (w0 : World) (bm bw : Nat) (s : Int × List Int) (q : List Int) (W : World) : Prop := ∃ A c vq m, BX w0 bm bw s.1 A c s.2 vq q m W
theorem BS.below {w0 W : World} {bm bw : Nat} {s : Int × List Int} {q : List Int} (h : BS w0 bm bw s q W) : Below w0.heap.size w0 W := by obtain ⟨_, _, _, _, h⟩ := h; exact h.below
theorem World.grownBy_refl (w : World) (row : Option Nat) : w.grownBy w row := ⟨rfl, rfl, rfl, Nat.le_refl _, fun _ _ _ => rfl⟩
set_option maxHeartbeats 8000000 in
set_option maxRecDepth 100000 in
theorem wait_calls (w0 : World) (bm bw : Nat) (i : Int) (s : Int × List Int) (q : List Int) (s2 : Int × List Int) (q2 : List Int) (h : waitF s q i = some (s2, q2)) (W : World) (hW : BS w0 bm bw s q W) :
    Calls Tryd.prog 35 #[.int .i64 i, .pointer (some ⟨bm, 0, none⟩), .pointer (some ⟨bw, 0, none⟩)] W fun e w' => e = .returned (.tuple #[]) ∧ BS w0 bm bw s2 q2 w' := by
  obtain ⟨room, L⟩ := s
  obtain ⟨A, c, vq, m, hX⟩ := hW
  unfold waitF at h
  obtain ⟨r, hr, h⟩ := Option.bind_eq_some_iff.mp h
  simp only at hr h hX
  obtain ⟨Aq, cq, eq⟩ := hX.r.form
  subst eq
  have f1 : W.cell? ⟨bm, 0, none⟩ = some (.int .i64 room) := (blk_cell hX.hm 0).trans rfl
  have f2 : W.cell? ⟨bm, 1, none⟩ = some (.slice A L.length c) := (blk_cell hX.hm 1).trans rfl
  obtain ⟨-, hc, hC⟩ := Kd.V_reads' hX.v
  have hcall := bits_Set_Has.calls room A c L i r W hC hc hr
  have HX := Aside0.mk hX
  have HL := Aside0.mk hcall
  clear hX hC hc hcall hr
  cases r with
  | true =>
    rw [if_pos rfl] at h
    injection h with h
    injection h with e1 e2
    subst e1
    subst e2
    go_enter Tryd.func35, Tryd.ntmps35
    go_wp2_with (go_at_call 36; refine HL.out.mono ?_; rintro e w1 ⟨rfl, hb⟩; have X1 := Aside0.mk (BX.over HX.out hb); clear hb)
    refine bodyPost_end (results_none rfl _ _ _) rfl ?_
    exact ⟨rfl, _, _, _, _, X1.out⟩
  | false =>
    rw [if_neg (by decide)] at h
    split at h
    rotate_left
    · cases h
    rename_i hlen
    obtain ⟨⟨r3, L3⟩, hw, h⟩ := Option.bind_eq_some_iff.mp h
    injection h with h
    injection h with e1 e2
    subst e1
    subst e2
    have HWI := Aside0.mk hw
    have HLEN := Aside0.mk hlen
    clear hw hlen
    go_enter Tryd.func35, Tryd.ntmps35
    go_wp2_with (first
      | (go_at_call 36; refine HL.out.mono ?_; rintro e w1 ⟨rfl, hb⟩; have X1 := Aside0.mk (BX.over HX.out hb); have f3 : w1.cell? ⟨bm, 0, none⟩ = some (.int .i64 room) := (blk_cell X1.out.hm 0).trans rfl; have f4 : w1.cell? ⟨bm, 1, none⟩ = some (.slice A L.length c) := (blk_cell X1.out.hm 1).trans rfl; clear hb)
      | (go_at_call 34; refine (bits_Set_With.calls room m A c L i _ L3 w1 X1.out.v HWI.out).mono ?_; rintro e w2 ⟨v2, rfl, hv, hb⟩; obtain ⟨A2, c2, e2⟩ := Kd.V_slice hv; subst e2; have f5 : w2.cell? ⟨bm, 0, none⟩ = some (.int .i64 room) := (blk_cell (blk_below X1.out.hm hb) 0).trans rfl; have f6 : w2.cell? ⟨bm, 1, none⟩ = some (.slice A L.length c) := (blk_cell (blk_below X1.out.hm hb) 1).trans rfl; have f7 := blk_frozen (blk_below X1.out.hm hb) 0; have f8 := blk_frozen (blk_below X1.out.hm hb) 1; have X2 := Aside0.mk (BX.put X1.out hb (room2 := r3) hv); clear hb hv)
      | ((with_reducible refine gate_store (t := 60) (p := 1) rfl ?_); refine store_event (t := 60) (p := 1) (v := ?vo) (w1 := ((w2.setCell ⟨bm, 0, none⟩ (.int .i64 r3)).setCell ⟨bm, 1, none⟩ (.slice A2 L3.length c2))) ?hg ?ho ?hn ?hr ?_; (case ho => rfl); (case hg => rfl); (case hn => rfl); (case hr => first | (go_simp; done) | (go_simp; rfl)); intro w4 hw4; have X4 : Aside0 (BX w0 bm bw r3 A2 c2 L3 (.slice Aq q.length cq) q (fun k => m k ∨ w1.heap.size ≤ k) w4) := ⟨by rw [hw4]; exact X2.out⟩; clear hw4 X2; have f9 : w4.cell? ⟨bw, 0, none⟩ = some (.slice Aq q.length cq) := (blk_cell X4.out.hw 0).trans rfl)
      | ((with_reducible refine gate_builtin (b := .append) (xs := #[.tmp 11, .tmp 13]) rfl ?_); (try (refine gate_guard (by rfl) ?_; dsimp only)); at_builtin; refine Qu.R.append (w0 := w0) w0.heap.size rfl (.tmp 11) (.tmp 13) rfl (.slice Aq q.length cq) q i rfl rfl ?aO ?aB ?aS ?aL ?_; (case aO => exact X4.out.r); (case aB => exact X4.out.below); (case aS => exact below_size X4.out.below); (case aL => exact HLEN.out); intro v3 w3 hr3 hb3 hg3 hat3; obtain ⟨A3, c3, e3⟩ := hr3.form; subst e3; have k3 := blk_grown X4.out.hw hg3 (fun e => (X4.out.qm bw e.symm).2 rfl); have f10 : w3.cell? ⟨bw, 0, none⟩ = some (.slice Aq q.length cq) := (blk_cell k3 0).trans rfl; have f11 := blk_frozen k3 0; have X3 := Aside0.mk (BX.app X4.out hr3 hb3 hg3 hat3); clear hr3 hb3 hg3 hat3 k3))
    refine bodyPost_end (results_none rfl _ _ _) rfl ?_
    have h9 := X3.out
    rw [List.length_append] at h9
    exact ⟨rfl, _, _, _, _, h9⟩
set_option maxHeartbeats 16000000 in
set_option maxRecDepth 100000 in
theorem loop_body.calls (k : Nat) (Ap : Option Addr) (cp : Nat) (P : List (List Int)) (head : Int) (Af : Option Addr) (cf : Nat) (fr r : List Int) (w : World) (hrP : Kd.C (Kd.slice 3 (Kd.int .i64)) w Ap P.length P) (hcP : P.length ≤ cp) (hrF : Kd.C (Kd.int .i64) w Af fr.length fr) (h : loop_body.f k P head fr = some r) (hL_ : Laid w) :
    Calls Tryd.prog 25 #[.slice Ap P.length cp, .int .i64 head, .slice Af fr.length cf] w fun e w' => ∃ v0_ : Value, e = .returned v0_ ∧ Kd.R (Kd.int .i64) 3 w' w.heap.size (fun _ => True) v0_ r ∧ Below w.heap.size w w' := by
  unfold loop_body.f at h
  split at h
  rotate_left
  · cases h
  rename_i hfl
  obtain ⟨⟨s0, L0⟩, h0, h⟩ := Option.bind_eq_some_iff.mp h
  obtain ⟨⟨s1, L1⟩, h1, h⟩ := Option.bind_eq_some_iff.mp h
  obtain ⟨⟨s2, q2⟩, h2, h⟩ := Option.bind_eq_some_iff.mp h
  obtain ⟨⟨s3, L3⟩, h3, h⟩ := Option.bind_eq_some_iff.mp h
  have H0 := Aside0.mk h0
  have H1 := Aside0.mk h1
  have H2 := Aside0.mk h2
  have H3 := Aside0.mk h3
  have H4 := Aside0.mk h
  have HP := Aside0.mk hrP
  have HF := Aside0.mk hrF
  have HCP := Aside0.mk hcP
  have HL := Aside0.mk hL_
  have HFL := Aside0.mk hfl
  clear h0 h1 h2 h3 h hrP hrF hcP hL_ hfl
  have hmf : ∀ (fn : Fn) (first cap : Array Value) (w : World), (Instr.makeFunc fn first cap).run Tryd.prog w = .ok (.func fn first cap) w := fun _ _ _ _ => rfl
  go_enter Tryd.func25, Tryd.ntmps25
  go_wp2_with (first
    | (go_at_call 33; refine (bits_New.calls (P.length : Int) _ _ _ H0.out).mono ?_; rintro e w1 ⟨v1, rfl, ho, hb⟩; obtain ⟨A1, c1, e1⟩ := Kd.R_slice ho; subst e1; have V1 := Aside0.mk (Kd.R_V (base' := w1.heap.size) ho); have B1 := Aside0.mk hb; clear ho hb)
    | (go_at_call 34; refine (bits_Set_With.calls s0 (fun _ => True) A1 c1 L0 head _ _ w1 V1.out H1.out).mono ?_; rintro e w2 ⟨v2, rfl, hv, hb⟩; obtain ⟨A2, c2, e2⟩ := Kd.V_slice hv; subst e2; have V2 := Aside0.mk hv; have B2 := Aside0.mk (below_step B1.out hb); clear hv hb)
    | ((with_reducible refine gate_dst (N := 7) rfl ?_); refine box_event ?hg (N := 7) ?hd (cs := #[.int .i64 0, .slice none 0 0]) (t := 60) ?hr ?_; (case hd => rfl); (case hg => rfl); (case hr => first | (go_simp; done) | (go_simp; rfl)); intro bm hbm w3 hbox hb; have f1 : w3.cell? ⟨bm, 0, none⟩ = some (.int .i64 0) := (blk_cell hbox 0).trans rfl; have f2 : w3.cell? ⟨bm, 1, none⟩ = some (.slice none 0 0) := (blk_cell hbox 1).trans rfl; have f3 := blk_frozen hbox 0; have f4 := blk_frozen hbox 1; have X3 := Aside0.mk hbox; have V3 := Aside0.mk (Kd.V_below (Kd.V_bound V2.out) hb); have B3 := Aside0.mk (below_step B2.out hb); have M3 := Aside0.mk hbm; clear hbox hb hbm)
    | ((with_reducible refine gate_dst (N := 8) rfl ?_); refine box_event ?hg (N := 8) ?hd (cs := #[.slice none 0 0]) (t := 26) ?hr ?_; (case hd => rfl); (case hg => rfl); (case hr => first | (go_simp; done) | (go_simp; rfl)); intro bw hbw w4 hbox hb; have X4 : Aside0 (BX w bm bw s1 A2 c2 L1 (.slice none 0 0) [] (fun k => (True ∨ w1.heap.size ≤ k) ∧ k < w2.heap.size) w4) := ⟨by
        have e1 : bm = w2.heap.size := M3.out
        have lm : w.heap.size ≤ bm := by rw [e1]; exact below_size B2.out
        have b4 : w2.heap.size < bw := by rw [hbw]; have := blk_lt X3.out; simp only [World.setCell, Array.size_modify]; omega
        exact ⟨below_step (below_set (below_set B3.out lm) lm) hb, lm, by omega, blk_below (blk_put (blk_put X3.out 0 _ rfl) 1 _ rfl) hb, hbox, Kd.V_below (Kd.V_far (Kd.V_far V3.out (fun k hk => by have := hk.2; simp only; omega) _) (fun k hk => by have := hk.2; simp only; omega) _) hb, Qu.R.nil _ _, fun h => by have := h.2; omega, fun h => by have := h.2; omega, fun k e => by cases e⟩⟩; clear hbox hb hbw f1 f2 f3 f4))
  clear X3 V3 M3 hmf
  have X5 : Aside0 (BS w bm bw (s1, L1) [] w4) := ⟨_, _, _, _, X4.out⟩
  clear X4
  go_loopw [23] (fun vi wr => ∃ (j : Nat) (s : Int × List Int) (q : List Int), vi = .int .i64 (j : Int) ∧ j ≤ fr.length ∧ Aside0 (waitsF (fr.drop j) s q = some (s2, q2)) ∧ Aside0 (BS w bm bw s q wr)) (fun vi _ => fr.length - (intOf vi).toNat)
  case atStart => exact ⟨0, _, _, rfl, Nat.zero_le _, ⟨by rw [List.drop_zero]; exact H2.out⟩, X5⟩
  case round =>
    obtain ⟨j, s, q, rfl, hj, hO, hX⟩ := hrel
    clear X5 H2
    by_cases hlt : j < fr.length
    · have hbel : Below w.heap.size w wr := by obtain ⟨_, _, _, _, h⟩ := hX.out; exact h.below
      obtain ⟨ad, eA, hx⟩ := Kd.at_int (Kd.C_below HF.out hbel) (j : Int) (by omega) (by omega)
      subst eA
      rw [Int.toNat_natCast] at hx
      have hq := hO.out
      have hdrop : fr.drop j = rd fr (j : Int) :: fr.drop (j + 1) := by
        rw [List.drop_eq_getElem_cons hlt]
        simp [rd, hlt]
      rw [hdrop] at hq
      simp only [waitsF] at hq
      obtain ⟨⟨s5, q5⟩, hq1, hq2⟩ := Option.bind_eq_some_iff.mp hq
      clear hdrop hq hO hbel
      generalize rd fr (j : Int) = i at hx hq1
      have HC := Aside0.mk (wait_calls w bm bw i s q s5 q5 hq1 wr hX.out)
      have HQ2 := Aside0.mk hq2
      have y0 : decide ((j : Int) < (fr.length : Int)) = true := decide_eq_true (by omega)
      have y1 : (j < fr.length) = True := eq_true hlt
      clear hq1 hq2 hX
      have hgn := HFL.out
      go_wp2_with (go_at_call 35; refine HC.out.mono ?_; rintro e w5 ⟨rfl, h5⟩; have X6 := Aside0.mk h5; clear h5)
      go_roundw
      case rel => exact ⟨j + 1, _, _, by go_num, hlt, HQ2, X6⟩
      case measure => simp [intOf]; omega
    · obtain rfl : j = fr.length := by omega
      have hq := hO.out
      rw [List.drop_length] at hq
      simp only [waitsF, Option.some.injEq, Prod.mk.injEq] at hq
      obtain ⟨rfl, rfl⟩ := hq
      have y0 : decide ((fr.length : Int) < (fr.length : Int)) = false := decide_eq_false (by omega)
      clear hlt hj hO
      go_wp2
      go_loopg [12] k (fun kq v12 w6 => ∃ (s : Int × List Int) (q : List Int), Aside0 (goF P kq s q = some (s3, L3)) ∧ Aside0 (BS w bm bw s q w6))
      case atStart => exact ⟨_, _, H3, hX⟩
      case round =>
        obtain ⟨⟨s7, L7⟩, q, hO, hX⟩ := hrel
        clear H3
        obtain ⟨A7, c7, vq, m7, hX⟩ := hX.out
        simp only at hX
        cases gk with
        | zero => exact absurd hO.out (by simp [goF])
        | succ k1 =>
        cases q with
        | nil =>
          have hq := hO.out
          simp only [goF, Option.some.injEq, Prod.mk.injEq] at hq
          obtain ⟨rfl, rfl⟩ := hq
          obtain ⟨Aq, cq, eq⟩ := hX.r.form
          subst eq
          have f1 : wr.cell? ⟨bw, 0, none⟩ = some (.slice Aq 0 cq) := (blk_cell hX.hw 0).trans rfl
          have f2 : wr.cell? ⟨bm, 0, none⟩ = some (.int .i64 s7) := (blk_cell hX.hm 0).trans rfl
          have f3 : wr.cell? ⟨bm, 1, none⟩ = some (.slice A7 L7.length c7) := (blk_cell hX.hm 1).trans rfl
          obtain ⟨-, hc, hC⟩ := Kd.V_reads' hX.v
          have HX := Aside0.mk hX
          have HCL := Aside0.mk (bits_Set_List.calls k s7 A7 c7 L7 r wr hC hc H4.out (Laid.below HL.out hX.below))
          clear hX hC hc hO
          go_wp2_with (go_at_call 37; refine HCL.out.mono ?_; rintro e w8 ⟨v8, rfl, ho, hb⟩; obtain ⟨A8, c8, e8⟩ := Kd.R_slice ho; subst e8; have R8 := Aside0.mk ho; have B8 := Aside0.mk hb; clear ho hb)
          go_ret
          exact ⟨_, rfl, Kd.R_lower R8.out (below_size HX.out.below), below_step HX.out.below B8.out⟩
        | cons i q =>
          have hq := hO.out
          simp only [goF] at hq
          split at hq
          rotate_left
          · cases hq
          rename_i hi
          obtain ⟨⟨s8, q8⟩, hq1, hq2⟩ := Option.bind_eq_some_iff.mp hq
          obtain ⟨g, o, cap, eq, hl1, hl2, hcell, hc1, hc2⟩ := hX.r.cons
          subst eq
          have f1 : wr.cell? ⟨bw, 0, none⟩ = some (.slice (some ⟨g, o, none⟩) (q.length + 1) cap) := (blk_cell hX.hw 0).trans rfl
          have f2 := blk_frozen hX.hw 0
          have HX := Aside0.mk hX
          have HI := Aside0.mk hi
          have HQ1 := Aside0.mk hq1
          have HQ2 := Aside0.mk hq2
          have HC1 := Aside0.mk hc1
          have HC2 := Aside0.mk hc2
          clear hX hO hq hq1 hq2 hc1 hc2 hi
          obtain ⟨hi0, hi1, hi2⟩ := HI.out
          obtain ⟨adp, Ai, ci, eP, hxp, hlp, hrp⟩ := DomA.at_L HP.out i hi0 (by omega)
          subst eP
          have HXP := Aside0.mk hxp
          have HRP := Aside0.mk hrp
          have q1 : (0 ≤ i) = True := eq_true hi0
          have q2 : (i < (P.length : Int)) = True := eq_true hi1
          clear hxp hrp
          generalize hcs : DomA.rdL P i = cs at *
          have HCS := Aside0.mk hi2
          by_cases ec : cap = 1
          · subst ec
            have hq0 : q = [] := List.eq_nil_of_length_eq_zero (by omega)
            subst hq0
            have f3 : (wr.setCell ⟨bw, 0, none⟩ (.slice (some ⟨g, o, none⟩) 0 0)).cell? (adp.add i.toNat) = some (.slice Ai cs.length ci) := ((below_set HX.out.below HX.out.lw).cell (World.block_lt_of_cell? _ _ HXP.out)).trans HXP.out
            go_wp2
            obtain ⟨w8, hw8⟩ : ∃ w8 : World, w8 = wr.setCell ⟨bw, 0, none⟩ (.slice (some ⟨g, o, none⟩) 0 0) := ⟨_, rfl⟩
            rw [← hw8]
            have X8 : Aside0 (BS w bm bw (s7, L7) [] w8) := ⟨⟨_, _, _, _, by rw [hw8]; exact BX.app HX.out (HC1.out trivial) HX.out.below (World.grownBy_refl _ _) (.inl rfl)⟩⟩
            clear hw8 f3 f1 f2 HX
            clear hcs hi2 hlp HI
            go_loopw [44] (fun vi wx => ∃ (j : Nat) (s : Int × List Int) (qq : List Int), vi = .int .i64 (j : Int) ∧ j ≤ cs.length ∧ Aside0 (waitsF (cs.drop j) s qq = some ((s8, q8))) ∧ Aside0 (BS w bm bw s qq wx)) (fun vi _ => cs.length - (intOf vi).toNat)
            case atStart => exact ⟨0, _, _, rfl, Nat.zero_le _, ⟨by rw [List.drop_zero]; exact HQ1.out⟩, X8⟩
            case round =>
              obtain ⟨j, s, qq, rfl, hj, hO, hX⟩ := hrel
              clear X8 HQ1
              by_cases hlt : j < cs.length
              · have hbel := BS.below hX.out
                obtain ⟨ad, eA, hx⟩ := Kd.at_int (Kd.C_below HRP.out hbel) (j : Int) (by omega) (by omega)
                subst eA
                rw [Int.toNat_natCast] at hx
                have hq := hO.out
                have hdrop : cs.drop j = rd cs (j : Int) :: cs.drop (j + 1) := by
                  rw [List.drop_eq_getElem_cons hlt]
                  simp [rd, hlt]
                rw [hdrop] at hq
                simp only [waitsF] at hq
                obtain ⟨⟨s5, q5⟩, hq1, hq3⟩ := Option.bind_eq_some_iff.mp hq
                clear hdrop hq hO hbel
                generalize rd cs (j : Int) = i at hx hq1
                have HC := Aside0.mk (wait_calls w bm bw i s qq s5 q5 hq1 wr hX.out)
                have HQ3 := Aside0.mk hq3
                have y0 : decide ((j : Int) < (cs.length : Int)) = true := decide_eq_true (by omega)
                have y1 : (j < cs.length) = True := eq_true hlt
                clear hq1 hq3 hX
                have hgn := HCS.out
                go_wp2_with (go_at_call 35; refine HC.out.mono ?_; rintro e w5 ⟨rfl, h5⟩; have X6 := Aside0.mk h5; clear h5)
                go_roundw
                case rel => exact ⟨j + 1, _, _, by go_num, hlt, HQ3, X6⟩
                case measure => simp [intOf]; omega
              · obtain rfl : j = cs.length := by omega
                have hq := hO.out
                rw [List.drop_length] at hq
                simp only [waitsF, Option.some.injEq, Prod.mk.injEq] at hq
                obtain ⟨rfl, rfl⟩ := hq
                have y0 : decide ((cs.length : Int) < (cs.length : Int)) = false := decide_eq_false (by omega)
                clear hlt hj hO
                go_wp2
                go_roundg k1
                case measure => omega
                case rel => exact ⟨_, _, HQ2, hX⟩
          · have f3 : (wr.setCell ⟨bw, 0, none⟩ (.slice (some ⟨g, o + 1, none⟩) q.length (cap - 1))).cell? (adp.add i.toNat) = some (.slice Ai cs.length ci) := ((below_set HX.out.below HX.out.lw).cell (World.block_lt_of_cell? _ _ HXP.out)).trans HXP.out
            go_wp2
            obtain ⟨w8, hw8⟩ : ∃ w8 : World, w8 = wr.setCell ⟨bw, 0, none⟩ (.slice (some ⟨g, o + 1, none⟩) q.length (cap - 1)) := ⟨_, rfl⟩
            rw [← hw8]
            have X8 : Aside0 (BS w bm bw (s7, L7) q w8) := ⟨⟨_, _, _, _, by rw [hw8]; exact BX.app HX.out (HC2.out ec) HX.out.below (World.grownBy_refl _ _) (.inl rfl)⟩⟩
            clear hw8 f3 f1 f2 HX
            clear hcs hi2 hlp HI
            go_loopw [44] (fun vi wx => ∃ (j : Nat) (s : Int × List Int) (qq : List Int), vi = .int .i64 (j : Int) ∧ j ≤ cs.length ∧ Aside0 (waitsF (cs.drop j) s qq = some ((s8, q8))) ∧ Aside0 (BS w bm bw s qq wx)) (fun vi _ => cs.length - (intOf vi).toNat)
            case atStart => exact ⟨0, _, _, rfl, Nat.zero_le _, ⟨by rw [List.drop_zero]; exact HQ1.out⟩, X8⟩
            case round =>
              obtain ⟨j, s, qq, rfl, hj, hO, hX⟩ := hrel
              clear X8 HQ1
              by_cases hlt : j < cs.length
              · have hbel := BS.below hX.out
                obtain ⟨ad, eA, hx⟩ := Kd.at_int (Kd.C_below HRP.out hbel) (j : Int) (by omega) (by omega)
                subst eA
                rw [Int.toNat_natCast] at hx
                have hq := hO.out
                have hdrop : cs.drop j = rd cs (j : Int) :: cs.drop (j + 1) := by
                  rw [List.drop_eq_getElem_cons hlt]
                  simp [rd, hlt]
                rw [hdrop] at hq
                simp only [waitsF] at hq
                obtain ⟨⟨s5, q5⟩, hq1, hq3⟩ := Option.bind_eq_some_iff.mp hq
                clear hdrop hq hO hbel
                generalize rd cs (j : Int) = i at hx hq1
                have HC := Aside0.mk (wait_calls w bm bw i s qq s5 q5 hq1 wr hX.out)
                have HQ3 := Aside0.mk hq3
                have y0 : decide ((j : Int) < (cs.length : Int)) = true := decide_eq_true (by omega)
                have y1 : (j < cs.length) = True := eq_true hlt
                clear hq1 hq3 hX
                have hgn := HCS.out
                go_wp2_with (go_at_call 35; refine HC.out.mono ?_; rintro e w5 ⟨rfl, h5⟩; have X6 := Aside0.mk h5; clear h5)
                go_roundw
                case rel => exact ⟨j + 1, _, _, by go_num, hlt, HQ3, X6⟩
                case measure => simp [intOf]; omega
              · obtain rfl : j = cs.length := by omega
                have hq := hO.out
                rw [List.drop_length] at hq
                simp only [waitsF, Option.some.injEq, Prod.mk.injEq] at hq
                obtain ⟨rfl, rfl⟩ := hq
                have y0 : decide ((cs.length : Int) < (cs.length : Int)) = false := decide_eq_false (by omega)
                clear hlt hj hO
                go_wp2
                go_roundg k1
                case measure => omega
                case rel => exact ⟨_, _, HQ2, hX⟩
end Go.Proofs.YtfiffhcpgojkhaaDoor.QLoopNests
