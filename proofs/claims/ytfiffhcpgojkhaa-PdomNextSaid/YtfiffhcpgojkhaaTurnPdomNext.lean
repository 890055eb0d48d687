/- pdom.Turned by hand, over the printed Preds and there. No condition. -/
import Derived.Test.YtfiffhcpgojkhaaQPdomNextx1
import Derived.Test.YtfiffhcpgojkhaaQPdomNextx9
import Derived.Test.YtfiffhcpgojkhaaDomE
import Derived.Test.YtfiffhcpgojkhaaPdB
namespace Go.Proofs.Ytfiffhcpgojkhaa.QPdomNext
open Go.RowKit Go.Proofs.Ytfiffhcpgojkhaa Go.Proofs.YtfiffhcpgojkhaaW.PrintWords Go.Proofs.YtfiffhcpgojkhaaW.PrintLast Go.Proofs.YtfiffhcpgojkhaaW.PrintMore
set_option linter.unusedVariables false
set_option linter.unusedSimpArgs false
def turn1F (k : Nat) (n : Int) : List (List Int) → Nat → List (List Int) → Option (List (List Int))
 | [], _, P => some P
 | l :: ls, i, P => (pdom_there.f k l n).bind fun t => if t.length = 0 then (if (DomA.rdL P 0).length < 17592186044416 then turn1F k n ls (i + 1) (P.set 0 (DomA.rdL P 0 ++ [wrap64 ((i : Int) + 1)])) else none) else turn1F k n ls (i + 1) P
def turn2I (i : Int) : List Int → List (List Int) → Option (List (List Int))
 | [], P => some P
 | c :: cs, P => if (DomA.rdL P i).length < 17592186044416 then turn2I i cs (P.set i.toNat (DomA.rdL P i ++ [wrap64 (c + 1)])) else none
def turn2F (n : Nat) : List (List Int) → Nat → List (List Int) → Option (List (List Int))
 | [], _, P => some P
 | q :: qs, i, P => if 0 ≤ wrap64 ((i : Int) + 1) ∧ wrap64 ((i : Int) + 1) < (n : Int) ∧ q.length < 17592186044416 then (turn2I (wrap64 ((i : Int) + 1)) q P).bind fun P2 => turn2F n qs (i + 1) P2 else none
def pdom_Turned.f (k : Nat) (l0 : List (List Int)) : Option (List (List Int)) := if l0.length ≤ 11728124029600 then (turn1F k (l0.length : Int) l0 0 (List.replicate (l0.length + 1) [])).bind fun P => (flow_Preds.f k l0).bind fun Q => if Q.length ≤ l0.length then turn2F (l0.length + 1) Q 0 P else none else none
theorem turn1F_mono (k : Nat) (n : Int) : ∀ ls i P r, turn1F k n ls i P = some r → turn1F (k + 1) n ls i P = some r := by
  intro ls
  induction ls with
  | nil => intro i P r h; exact h
  | cons l ls ih =>
    intro i P r h
    simp only [turn1F] at h ⊢
    obtain ⟨t, ht, h⟩ := Option.bind_eq_some_iff.mp h
    rw [pdom_there.mono _ _ k _ ht]
    simp only [Option.bind_some]
    split at h
    · rename_i h0
      rw [if_pos h0]
      split at h
      · rename_i h1; rw [if_pos h1]; exact ih _ _ _ h
      · cases h
    · rename_i h0; rw [if_neg h0]; exact ih _ _ _ h
theorem pdom_Turned.mono : ∀ a0 k, LeO (pdom_Turned.f k a0) (pdom_Turned.f (k + 1) a0) := by
  intro a0 k r h
  unfold pdom_Turned.f at h ⊢
  split at h
  rotate_left
  · cases h
  rename_i hc
  rw [if_pos hc]
  obtain ⟨P, hp, h⟩ := Option.bind_eq_some_iff.mp h
  obtain ⟨Q, hq, h⟩ := Option.bind_eq_some_iff.mp h
  rw [turn1F_mono _ _ _ _ _ _ hp]
  simp only [Option.bind_some]
  rw [flow_Preds.mono _ k _ hq]
  exact h
/-- The row of rows that is made. -/
def TO (w0 : World) (ok : Nat → Prop) (g n c : Nat) (P : List (List Int)) (W : World) : Prop := Kd.S (Kd.slice 3 (Kd.int .i64)) 27 W w0.heap.size ok (.slice (some ⟨g, 0, none⟩) n c) P
theorem TO.len {w0 : World} {ok : Nat → Prop} {g n c : Nat} {P : List (List Int)} {W : World} (h : TO w0 ok g n c P W) : n = P.length := (Kd.S_reads' h).1
theorem TO.elem {w0 : World} {ok : Nat → Prop} {g n c : Nat} {P : List (List Int)} {W : World} (h : TO w0 ok g n c P W) (i : Int) (h0 : 0 ≤ i) (h1 : i < (n : Int)) :
    ∃ (A0 : Option Addr) (c0 : Nat) (oki : Nat → Prop), ok g ∧ w0.heap.size ≤ g ∧ W.cell? ⟨g, i.toNat, none⟩ = some (.slice A0 (DomA.rdL P i).length c0) ∧ (Kd.R (Kd.int .i64) 3 W w0.heap.size oki (.slice A0 (DomA.rdL P i).length c0) (DomA.rdL P i)) ∧ (∀ k, oki k → ok k) ∧
      ∀ w1 v1 xs, Kd.R (Kd.int .i64) 3 w1 w0.heap.size (fun k => oki k ∨ ok k ∧ W.heap.size ≤ k) v1 xs → W.grownBy w1 (Value.slice A0 (DomA.rdL P i).length c0).ownBlock → (∃ u, w1.cell? ⟨g, i.toNat, none⟩ = some u) ∧ w1.frozen? ⟨g, i.toNat, none⟩ = false ∧ TO w0 ok g n c (P.set i.toNat xs) (w1.setCell ⟨g, i.toNat, none⟩ v1) ∧ w1.grownBy (w1.setCell ⟨g, i.toNat, none⟩ v1) (some g) := by
  have hl := (Kd.S_reads' h).1
  obtain ⟨g', cap, eo, gb, gl, cs, hc⟩ := Kd.S_form h (by omega)
  obtain rfl : g = g' := by injection eo with e; injection e with e; injection e
  have hg0 : ok g := (Kd.S_R h).1 g rfl
  obtain ⟨oki, ce, hcl, hM, hcc, _, hoki, hH⟩ := Kd.S_elem h [] i h0 h1
  obtain ⟨ve, rfl, ge⟩ := hM
  have hv := hcc 0 _ rfl
  simp only [Nat.add_zero, show ((Kd.slice 3 (Kd.int .i64))).sz = 1 from rfl, Nat.mul_one] at hv
  obtain ⟨A0, c0, e0⟩ := Kd.R_slice ge
  subst e0
  refine ⟨A0, c0, oki, hg0, gb, hv, ge, fun k hk => (hoki k hk).1, fun w1 v1 xs hr hg => ?_⟩
  have hH1 := Kd.H_grown (Kd.H_widen hH) hg (fun k_ e_ => .inl (ge.1 k_ e_))
  obtain ⟨_, _, hraw, _, _, hcc2, _⟩ := Kd.H_raw hH1 h0 h1
  obtain ⟨_, hfr⟩ := Kd.H_at hH1 h0 h1
  have hx := hcc2 0 _ rfl
  have hf := hfr 0
  have HP := Kd.S_seg0 hH1 h0 h1 (seg := [v1]) (j := 0) (show 1 ≤ 1 from by decide) (x' := xs) (Kd.M_row hr) (fun _ hk => hk)
  simp only [Nat.add_zero, show ((Kd.slice 3 (Kd.int .i64))).sz = 1 from rfl, Nat.mul_one] at hx hf HP
  exact ⟨⟨_, hx⟩, hf, HP.1, HP.2⟩
/-- An element of the other row of rows, which nothing changes. -/
theorem QO_elem {base : Nat} {ok : Nat → Prop} {A : Option Addr} {n c : Nat} {Q : List (List Int)} {W : World} (h : Kd.S (Kd.slice 3 (Kd.int .i64)) 27 W base ok (.slice A n c) Q) (i : Int) (h0 : 0 ≤ i) (h1 : i < (n : Int)) :
    ∃ (g : Nat) (A0 : Option Addr) (c0 : Nat), A = some ⟨g, 0, none⟩ ∧ W.cell? ⟨g, i.toNat, none⟩ = some (.slice A0 (DomA.rdL Q i).length c0) ∧ (Kd.R (Kd.int .i64) 3 W base ok (.slice A0 (DomA.rdL Q i).length c0) (DomA.rdL Q i)) := by
  have hl := (Kd.S_reads' h).1
  obtain ⟨g, cap, eo, gb, gl, cs, hc⟩ := Kd.S_form h (by omega)
  have eA : A = some ⟨g, 0, none⟩ := by injection eo
  subst eA
  obtain ⟨oki, ce, hcl, hM, hcc, _, hoki, hH⟩ := Kd.S_elem h [] i h0 h1
  obtain ⟨ve, rfl, ge⟩ := hM
  have hv := hcc 0 _ rfl
  simp only [Nat.add_zero, show ((Kd.slice 3 (Kd.int .i64))).sz = 1 from rfl, Nat.mul_one] at hv
  obtain ⟨A0, c0, e0⟩ := Kd.R_slice ge
  subst e0
  exact ⟨g, A0, c0, rfl, hv, Kd.R_mono ge (fun k hk => (hoki k hk).1)⟩
theorem drop_rdL (l : List (List Int)) (m : Nat) (h : m < l.length) : l.drop m = DomA.rdL l (m : Int) :: l.drop (m + 1) := by
  rw [List.drop_eq_getElem_cons h]
  simp [DomA.rdL, h]
set_option maxHeartbeats 16000000 in
set_option maxRecDepth 100000 in
theorem pdom_Turned.calls (k : Nat) (A0 : Option Addr) (c0 : Nat) (l0 : List (List Int)) (r : List (List Int)) (w : World) (hr0 : Kd.C (Kd.slice 3 (Kd.int .i64)) w A0 l0.length l0) (hc0 : l0.length ≤ c0) (h : pdom_Turned.f k l0 = some r) :
    Calls Try.prog 54 #[.slice A0 l0.length c0] w fun e w' => ∃ v0_ : Value, e = .returned v0_ ∧ Kd.S (Kd.slice 3 (Kd.int .i64)) 27 w' w.heap.size (fun _ => True) v0_ r ∧ Below w.heap.size w w' := by
  unfold pdom_Turned.f at h
  split at h
  rotate_left
  · cases h
  rename_i hg1
  obtain ⟨P1, hp, h⟩ := Option.bind_eq_some_iff.mp h
  obtain ⟨Q, hq, h⟩ := Option.bind_eq_some_iff.mp h
  split at h
  rotate_left
  · cases h
  rename_i hg2
  have z0 : wrap64 ((l0.length : Int) + 1) = ((l0.length + 1 : Nat) : Int) := PdB.wnext _ (by omega)
  obtain ⟨n1, hn1⟩ : ∃ n1, n1 = l0.length + 1 := ⟨_, rfl⟩
  rw [← hn1] at z0 hp h
  have HN1 := Aside0.mk hn1
  have Z0 := Aside0.mk z0
  have HP := Aside0.mk hp
  have HQ := Aside0.mk hq
  have HG1 := Aside0.mk hg1
  have HG2 := Aside0.mk hg2
  have HR0 := Aside0.mk hr0
  have HC0 := Aside0.mk hc0
  have HH := Aside0.mk h
  have HB := Aside0.mk (Below.refl w.heap.size w)
  have z2 : (0 ≤ wrap64 ((l0.length : Int) + 1)) = True := eq_true (by rw [z0]; omega)
  have z3 : decide (0 ≤ wrap64 ((l0.length : Int) + 1)) = true := decide_eq_true (by rw [z0]; omega)
  clear hg1 hg2 hr0 hc0 h hp hq z0 hn1
  go_enter Try.func54, Try.ntmps54
  go_wp2_with (first
    | ((with_reducible refine gate_dst (N := 13) rfl ?_); (try (refine gate_guard (by rfl) ?_; dsimp only)); refine Kd.S_make (Kd.slice 3 (Kd.int .i64)) (w0 := w) w.heap.size 27 rfl (N := 13) rfl 22 _ _ rfl (wrap64 ((l0.length : Int) + 1)) rfl rfl Try.underlying22 (.slice none 0 0) 24 DomA.infoS rfl (by decide) (by omega) [] (ok := fun _ => True) (okp := fun _ => True) ⟨_, rfl, Kd.R_nil _ _ _ _ _⟩ (fun _ hk => hk) trivial (by rw [Z0.out]; omega) (by rw [Z0.out, HN1.out]; have := HG1.out; omega) (Below.refl _ _) (Nat.le_refl _) ?_; intro v1 w1 ho1 hb1 hg_ hnew_; rw [Z0.out, Int.toNat_natCast] at ho1; obtain ⟨A3, c3, e3⟩ := Kd.S_slice ho1; rw [List.length_replicate] at e3; subst e3; have T1 := Aside0.mk ho1; have B1 := Aside0.mk hb1; clear ho1 hb1 hg_ hnew_))
  have hn1p : n1 = l0.length + 1 := HN1.out
  have HGN : Aside0 (l0.length < 4611686018427387904) := ⟨by have := HG1.out; omega⟩
  have HGQ : Aside0 (Q.length < 4611686018427387904) := ⟨by have := HG1.out; have := HG2.out; omega⟩
  obtain ⟨g, cap, eo, _, _, _⟩ := Kd.S_form T1.out (by rw [List.length_replicate]; omega)
  obtain rfl : A3 = some ⟨g, 0, none⟩ := by injection eo
  clear eo hn1p
  have T2 : Aside0 (TO w (fun _ => True) g n1 c3 (List.replicate n1 []) w1) := ⟨T1.out⟩
  clear T1
  go_loopw [16] (fun vi wr => ∃ (m : Nat) (P : List (List Int)), vi = .int .i64 (m : Int) ∧ m ≤ l0.length ∧ Aside0 (turn1F k (l0.length : Int) (l0.drop m) m P = some P1) ∧ Aside0 (TO w (fun _ => True) g n1 c3 P wr) ∧ Aside0 (Below w.heap.size w wr)) (fun vi _ => l0.length - (intOf vi).toNat)
  case atStart => exact ⟨0, _, rfl, Nat.zero_le _, ⟨by rw [List.drop_zero]; exact HP.out⟩, T2, B1⟩
  case round =>
    obtain ⟨m, P, rfl, hm, hO, hT, hB⟩ := hrel
    clear HP T2 B1 z2 z3
    by_cases hlt : m < l0.length
    · obtain ⟨adn, A4, c4, eA, hxn, hl4, hr4⟩ := DomA.at_L HR0.out (m : Int) (by omega) (by omega)
      subst eA
      rw [Int.toNat_natCast] at hxn
      have hq := hO.out
      rw [drop_rdL l0 m hlt] at hq
      simp only [turn1F] at hq
      generalize DomA.rdL l0 (m : Int) = cs at hxn hl4 hr4 hq
      obtain ⟨t, ht, hq⟩ := Option.bind_eq_some_iff.mp hq
      have hfz : wr.cell? (adn.add m) = some (.slice A4 cs.length c4) := (hB.out.cell (World.block_lt_of_cell? _ _ hxn)).trans hxn
      have HT := Aside0.mk ht
      have HR4 := Aside0.mk hr4
      have HL4 := Aside0.mk hl4
      have y0 : decide ((m : Int) < (l0.length : Int)) = true := decide_eq_true (by omega)
      have y1 : (m < l0.length) = True := eq_true hlt
      clear ht hr4 hl4 hxn hO
      by_cases ht0 : t.length = 0
      · rw [if_pos ht0] at hq
        obtain ⟨el, hel⟩ : ∃ el, el = DomA.rdL P 0 := ⟨_, rfl⟩
        rw [← hel] at hq
        split at hq
        rotate_left
        · cases hq
        rename_i hbig
        have HBIG := Aside0.mk hbig
        have HEL := Aside0.mk hel
        have HQ2 := Aside0.mk hq
        have y2 : ((t.length : Int) == 0) = true := beq_iff_eq.mpr (by omega)
        have y3 : (t.length : Int) = 0 := by omega
        have y4 : ((0 : Int) < (n1 : Int)) = True := eq_true (by have := HN1.out; omega)
        have y5 : (0 < n1) = True := eq_true (by have := HN1.out; omega)
        clear hq hbig hel
        go_wp2_with (first
          | ((with_reducible refine gate_callee (f := 75) rfl ?_); refine goesL_ (some 24) rfl rfl Try.func75 (by kernel_rfl) rfl #[.slice A4 cs.length c4, .int .i64 (l0.length : Int)] rfl (by (try simp only [List.map_toArray, List.map_cons, List.map_nil]); first | done | rfl) ?_; (with_reducible refine (pdom_there.calls k A4 c4 cs (l0.length : Int) t wr (Kd.C_below HR4.out hB.out) HL4.out HT.out).mono ?_); rintro e w2 ⟨v2, rfl, ho, hb⟩; refine ⟨_, rfl, ?_⟩; obtain ⟨At, ct, et⟩ := Kd.R_slice ho; subst et; have T2 : Aside0 (TO w (fun _ => True) g n1 c3 P w2) := ⟨Kd.S_below hT.out hb⟩; have B2 := Aside0.mk (below_step hB.out hb); clear ho hb; obtain ⟨A5, c5, oki, _, hw3, hx5, hr5, hok5, hput⟩ := TO.elem T2.out 0 (by decide) (by have := HN1.out; omega); rw [← HEL.out, show (0 : Int).toNat = 0 from rfl] at hx5; rw [← HEL.out] at hr5 hput; rw [show (0 : Int).toNat = 0 from rfl] at hput; have HR5 := Aside0.mk hr5; have HOK5 := Aside0.mk hok5; have HPUT := Aside0.mk hput; have HW3 := Aside0.mk hw3; clear hr5 hok5 hput hw3)
          | ((with_reducible refine gate_builtin (b := .append) (xs := #[.tmp 30, .tmp 33]) rfl ?_); (try (refine gate_guard (by rfl) ?_; dsimp only)); at_builtin; refine Kd.R_append (Kd.int .i64) (w0 := w) w.heap.size rfl (.tmp 30) (.tmp 33) 27 3 (.int .i64 0) 8 rfl Try.underlying27 DomA.infoI rfl (by decide) (by omega) (.slice A5 el.length c5) el (wrap64 ((m : Int) + 1)) [.int .i64 (wrap64 ((m : Int) + 1))] (fun k_ => oki k_ ∨ True ∧ w2.heap.size ≤ k_) (fun _ => False) rfl rfl ?aP (fun _ hk => hk.elim) ?aF ?aO ?aB ?aS ?aL ?_; (case aP => exact rfl); (case aB => exact B2.out); (case aF => exact (fun k_ hk => .inr ⟨trivial, hk⟩)); (case aO => exact Kd.R_mono HR5.out (fun _ hk => .inl hk)); (case aS => exact below_size B2.out); (case aL => have := HBIG.out; omega); intro v10 w10 ho hb hg hat; obtain ⟨⟨u10, f10⟩, f11, hp10, hg10⟩ := HPUT.out w10 v10 _ ho hg; have T11 := Aside0.mk hp10; have B11 : Aside0 (Below w.heap.size w (w10.setCell ⟨g, 0, none⟩ v10)) := ⟨below_set hb HW3.out⟩; obtain ⟨A10, c10, e10⟩ := Kd.R_slice ho; subst e10; clear ho hb hg hat hp10 hg10))
        go_roundw
        case rel => exact ⟨m + 1, _, by rw [PdB.wnext m (by have := HGN.out; omega)], hlt, HQ2, ⟨by have := T11.out; rw [List.length_append] at this; exact this⟩, ⟨by have := B11.out; rw [List.length_append] at this; exact this⟩⟩
        case measure => rw [PdB.wnext m (by have := HGN.out; omega)]; simp only [intOf, Int.toNat_natCast]; omega
      · rw [if_neg ht0] at hq
        have HQ2 := Aside0.mk hq
        have y2 : ((t.length : Int) == 0) = false := beq_eq_false_iff_ne.mpr (by omega)
        have y3 : ¬ ((t.length : Int) = 0) := by omega
        clear hq
        go_wp2_with (first
          | ((with_reducible refine gate_callee (f := 75) rfl ?_); refine goesL_ (some 24) rfl rfl Try.func75 (by kernel_rfl) rfl #[.slice A4 cs.length c4, .int .i64 (l0.length : Int)] rfl (by (try simp only [List.map_toArray, List.map_cons, List.map_nil]); first | done | rfl) ?_; (with_reducible refine (pdom_there.calls k A4 c4 cs (l0.length : Int) t wr (Kd.C_below HR4.out hB.out) HL4.out HT.out).mono ?_); rintro e w2 ⟨v2, rfl, ho, hb⟩; refine ⟨_, rfl, ?_⟩; obtain ⟨At, ct, et⟩ := Kd.R_slice ho; subst et; have T2 : Aside0 (TO w (fun _ => True) g n1 c3 P w2) := ⟨Kd.S_below hT.out hb⟩; have B2 := Aside0.mk (below_step hB.out hb); clear ho hb))
        go_roundw
        case rel => exact ⟨m + 1, _, by rw [PdB.wnext m (by have := HGN.out; omega)], hlt, HQ2, T2, B2⟩
        case measure => rw [PdB.wnext m (by have := HGN.out; omega)]; simp only [intOf, Int.toNat_natCast]; omega
    · obtain rfl : m = l0.length := by omega
      have hq := hO.out
      rw [List.drop_length] at hq
      simp only [turn1F, Option.some.injEq] at hq
      subst hq
      have y0 : decide ((l0.length : Int) < (l0.length : Int)) = false := decide_eq_false (by omega)
      clear hlt hm hO
      obtain ⟨s1, hs1⟩ : ∃ s1, wr.heap.size = s1 := ⟨_, rfl⟩
      have HS1 := Aside0.mk hs1
      clear hs1
      go_wp2_with (first
        | ((with_reducible refine gate_callee (f := 28) rfl ?_); refine goesL_ (some 38) rfl rfl Try.func28 (by kernel_rfl) rfl #[.slice A0 l0.length c0] rfl (by (try simp only [List.map_toArray, List.map_cons, List.map_nil]); first | done | rfl) ?_; (with_reducible refine (flow_Preds.calls k A0 c0 l0 Q wr (Kd.C_below HR0.out hB.out) HC0.out HQ.out).mono ?_); rintro e w3 ⟨v3, rfl, ho, hb⟩; refine ⟨_, rfl, ?_⟩; obtain ⟨A6, c6, e6⟩ := Kd.S_slice ho; subst e6; rw [HS1.out] at ho; have Q3 : Aside0 (Kd.S (Kd.slice 3 (Kd.int .i64)) 27 w3 s1 (fun k_ => s1 ≤ k_ ∧ k_ < w3.heap.size) (.slice A6 Q.length c6) Q) := ⟨Kd.S_mono (Kd.S_bound ho) (fun k_ hk => ⟨hk.2.1, hk.2.2.1⟩)⟩; have T3 : Aside0 (TO w (fun k_ => k_ < s1 ∨ w3.heap.size ≤ k_) g n1 c3 P w3) := ⟨Kd.S_below (Kd.S_mono (Kd.S_bound hT.out) (fun k_ hk => by have h_ := hk.2.2.1; rw [HS1.out] at h_; exact .inl h_)) hb⟩; have B3 := Aside0.mk (below_step hB.out hb); have S3 : Aside0 (w3.heap.size ≤ w3.heap.size) := ⟨Nat.le_refl _⟩; clear ho hb))
      go_loopw [40] (fun vi w4 => ∃ (m : Nat) (P : List (List Int)), vi = .int .i64 (m : Int) ∧ m ≤ Q.length ∧ Aside0 (turn2F n1 (Q.drop m) m P = some r) ∧ Aside0 (TO w (fun k_ => k_ < s1 ∨ w3.heap.size ≤ k_) g n1 c3 P w4) ∧ Aside0 (Kd.S (Kd.slice 3 (Kd.int .i64)) 27 w4 s1 (fun k_ => s1 ≤ k_ ∧ k_ < w3.heap.size) (.slice A6 Q.length c6) Q) ∧ Aside0 (Below w.heap.size w w4) ∧ Aside0 (w3.heap.size ≤ w4.heap.size)) (fun vi _ => Q.length - (intOf vi).toNat)
      case atStart => exact ⟨0, _, rfl, Nat.zero_le _, ⟨by rw [List.drop_zero]; exact HH.out⟩, T3, Q3, B3, S3⟩
      case round =>
        obtain ⟨m, P, rfl, hm, hO, hT, hQ, hB, hS⟩ := hrel
        clear HH T3 Q3 B3 S3
        by_cases hlt : m < Q.length
        · obtain ⟨g6, A7, c7, e6, hx7, hr7⟩ := QO_elem hQ.out (m : Int) (by omega) (by omega)
          subst e6
          rw [Int.toNat_natCast] at hx7
          have hq := hO.out
          rw [drop_rdL Q m hlt] at hq
          simp only [turn2F] at hq
          generalize DomA.rdL Q (m : Int) = cs at hx7 hr7 hq
          split at hq
          rotate_left
          · cases hq
          rename_i hix
          obtain ⟨hi0, hi1, hcl⟩ := hix
          obtain ⟨P2, hq1, hq2⟩ := Option.bind_eq_some_iff.mp hq
          have HQ1 := Aside0.mk hq1
          have HQ2 := Aside0.mk hq2
          have HR7 := Aside0.mk hr7
          have y0 : decide ((m : Int) < (Q.length : Int)) = true := decide_eq_true (by omega)
          have y1 : (m < Q.length) = True := eq_true hlt
          have HI0 := Aside0.mk hi0
          have HI1 := Aside0.mk hi1
          have HCL : Aside0 (cs.length < 4611686018427387904) := ⟨by omega⟩
          clear hq hq1 hq2 hr7 hO hi0 hi1 hcl
          go_wp2
          go_loopw [47] (fun vi w5 => ∃ (j : Nat) (P' : List (List Int)), vi = .int .i64 (j : Int) ∧ j ≤ cs.length ∧ Aside0 (turn2I (wrap64 ((m : Int) + 1)) (cs.drop j) P' = some P2) ∧ Aside0 (TO w (fun k_ => k_ < s1 ∨ w3.heap.size ≤ k_) g n1 c3 P' w5) ∧ Aside0 (Kd.S (Kd.slice 3 (Kd.int .i64)) 27 w5 s1 (fun k_ => s1 ≤ k_ ∧ k_ < w3.heap.size) (.slice (some ⟨g6, 0, none⟩) Q.length c6) Q) ∧ Aside0 (Kd.R (Kd.int .i64) 3 w5 s1 (fun k_ => s1 ≤ k_ ∧ k_ < w3.heap.size) (.slice A7 cs.length c7) cs) ∧ Aside0 (Below w.heap.size w w5) ∧ Aside0 (w3.heap.size ≤ w5.heap.size)) (fun vi _ => cs.length - (intOf vi).toNat)
          case atStart => exact ⟨0, _, rfl, Nat.zero_le _, ⟨by rw [List.drop_zero]; exact HQ1.out⟩, hT, hQ, HR7, hB, hS⟩
          case round =>
            obtain ⟨j, P', rfl, hj, hO, hT2, hQ2, hR2, hB2, hS2⟩ := hrel
            clear HQ1 hT hQ HR7 hB hS hx7
            by_cases hlt2 : j < cs.length
            · obtain ⟨ad4, e4, hx4⟩ := Kd.at_int (Kd.R_reads' hR2.out).2.2 (j : Int) (by omega) (by omega)
              rw [Int.toNat_natCast] at hx4
              subst e4
              have hq := hO.out
              rw [PdB.drop_rd cs j hlt2] at hq
              simp only [turn2I] at hq
              generalize rd cs (j : Int) = c at hx4 hq
              split at hq
              rotate_left
              · cases hq
              rename_i hbig
              obtain ⟨el, hel⟩ : ∃ el, el = DomA.rdL P' (wrap64 ((m : Int) + 1)) := ⟨_, rfl⟩
              rw [← hel] at hq hbig
              have HBIG := Aside0.mk hbig
              have HQ3 := Aside0.mk hq
              have y2 : decide ((j : Int) < (cs.length : Int)) = true := decide_eq_true (by omega)
              have y3 : (j < cs.length) = True := eq_true hlt2
              have y4 : (0 ≤ wrap64 ((m : Int) + 1)) = True := eq_true HI0.out
              have y5 : (wrap64 ((m : Int) + 1) < (n1 : Int)) = True := eq_true HI1.out
              obtain ⟨A5, c5, oki, hgg, hw3, hx5, hr5, hok5, hput⟩ := TO.elem hT2.out (wrap64 ((m : Int) + 1)) HI0.out HI1.out
              rw [← hel] at hx5 hr5 hput
              have HR5 := Aside0.mk hr5
              have HOK5 := Aside0.mk hok5
              have HPUT := Aside0.mk hput
              have HW3 := Aside0.mk hw3
              have HGG := Aside0.mk hgg
              clear hr5 hok5 hput hw3 hgg hq hbig hel hO
              go_wp2_with (first
                | ((with_reducible refine gate_builtin (b := .append) (xs := #[.tmp 58, .tmp 61]) rfl ?_); (try (refine gate_guard (by rfl) ?_; dsimp only)); at_builtin; refine Kd.R_append (Kd.int .i64) (w0 := w) w.heap.size rfl (.tmp 58) (.tmp 61) 27 3 (.int .i64 0) 8 rfl Try.underlying27 DomA.infoI rfl (by decide) (by omega) (.slice A5 el.length c5) el (wrap64 (c + 1)) [.int .i64 (wrap64 (c + 1))] (fun k_ => oki k_ ∨ (k_ < s1 ∨ w3.heap.size ≤ k_) ∧ wr.heap.size ≤ k_) (fun _ => False) rfl rfl ?aP (fun _ hk => hk.elim) ?aF ?aO ?aB ?aS ?aL ?_; (case aP => exact rfl); (case aB => exact hB2.out); (case aF => exact (fun k_ hk => .inr ⟨(.inr (Nat.le_trans hS2.out hk)), hk⟩)); (case aO => exact Kd.R_mono HR5.out (fun _ hk => .inl hk)); (case aS => exact below_size hB2.out); (case aL => have := HBIG.out; omega); intro v10 w10 ho hb hg hat; obtain ⟨⟨u10, f10⟩, f11, hp10, hg10⟩ := HPUT.out w10 v10 _ ho hg; have Q11 := Aside0.mk (Kd.S_grown (Kd.S_grown hQ2.out hg (fun k_ hk e => by have h1 : k_ < s1 ∨ w3.heap.size ≤ k_ := HOK5.out k_ (HR5.out.1 k_ e.symm); have h2 : s1 ≤ k_ ∧ k_ < w3.heap.size := hk; omega)) hg10 (fun k_ hk e => by injection e with e; have h1 : g < s1 ∨ w3.heap.size ≤ g := HGG.out; have h2 : s1 ≤ k_ ∧ k_ < w3.heap.size := hk; omega)); have R11 := Aside0.mk (Kd.R_grown (Kd.R_grown hR2.out hg (fun k_ hk e => by have h1 : k_ < s1 ∨ w3.heap.size ≤ k_ := HOK5.out k_ (HR5.out.1 k_ e.symm); have h2 : s1 ≤ k_ ∧ k_ < w3.heap.size := hk; omega)) hg10 (fun k_ hk e => by injection e with e; have h1 : g < s1 ∨ w3.heap.size ≤ g := HGG.out; have h2 : s1 ≤ k_ ∧ k_ < w3.heap.size := hk; omega)); have S11 := Aside0.mk (Nat.le_trans hS2.out (Nat.le_trans hg.size hg10.size)); have T11 := Aside0.mk hp10; have B11 : Aside0 (Below w.heap.size w (w10.setCell ⟨g, (wrap64 ((m : Int) + 1)).toNat, none⟩ v10)) := ⟨below_set hb HW3.out⟩; obtain ⟨A10, c10, e10⟩ := Kd.R_slice ho; subst e10; clear ho hb hg hat hp10 hg10))
              go_roundw
              case rel => exact ⟨j + 1, _, by rw [PdB.wnext j (by have := HCL.out; omega)], hlt2, HQ3, ⟨by have := T11.out; rw [List.length_append] at this; exact this⟩, ⟨by have := Q11.out; rw [List.length_append] at this; exact this⟩, ⟨by have := R11.out; rw [List.length_append] at this; exact this⟩, ⟨by have := B11.out; rw [List.length_append] at this; exact this⟩, ⟨by have := S11.out; rw [List.length_append] at this; exact this⟩⟩
              case measure => rw [PdB.wnext j (by have := HCL.out; omega)]; simp only [intOf, Int.toNat_natCast]; omega
            · obtain rfl : j = cs.length := by omega
              have hq := hO.out
              rw [List.drop_length] at hq
              simp only [turn2I, Option.some.injEq] at hq
              subst hq
              have y2 : decide ((cs.length : Int) < (cs.length : Int)) = false := decide_eq_false (by omega)
              clear hlt2 hj hO
              go_wp2
              go_roundw
              case rel => exact ⟨m + 1, _, by rw [PdB.wnext m (by have := HGQ.out; omega)], hlt, HQ2, hT2, hQ2, hB2, hS2⟩
              case measure => rw [PdB.wnext m (by have := HGQ.out; omega)]; simp only [intOf, Int.toNat_natCast]; omega
        · obtain rfl : m = Q.length := by omega
          have hq := hO.out
          rw [List.drop_length] at hq
          simp only [turn2F, Option.some.injEq] at hq
          subst hq
          have y2 : decide ((Q.length : Int) < (Q.length : Int)) = false := decide_eq_false (by omega)
          clear hlt hm hO
          go_wp2
          go_ret
          exact ⟨_, rfl, Kd.S_mono hT.out (fun _ _ => trivial), hB.out⟩
end Go.Proofs.Ytfiffhcpgojkhaa.QPdomNext
