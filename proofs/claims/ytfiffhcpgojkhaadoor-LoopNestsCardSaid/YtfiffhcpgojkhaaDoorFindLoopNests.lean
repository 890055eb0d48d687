/- loop.Find by hand, over the printed Backs and least, and over loop.body. No condition but that the graph is not too large. -/
import Derived.Test.YtfiffhcpgojkhaaDoorQLoopNestsx1
import Derived.Test.YtfiffhcpgojkhaaDoorQLoopNestsx10
import Derived.Test.YtfiffhcpgojkhaaDoorBodyLoopNests
import Derived.Test.YtfiffhcpgojkhaaDoorQu
namespace Go.Proofs.YtfiffhcpgojkhaaDoor.QLoopNests
open Go.RowKit Go.Proofs.YtfiffhcpgojkhaaDoor Go.Proofs.YtfiffhcpgojkhaaDoor.Gm Go.Proofs.YtfiffhcpgojkhaaDoorW.PrintWords Go.Proofs.YtfiffhcpgojkhaaDoorW.PrintLast Go.Proofs.YtfiffhcpgojkhaaDoorW.PrintMore
set_option linter.unusedVariables false
set_option linter.unusedSimpArgs false
def predsF (next : List (List Int)) : List Int → List (List Int) → Option (List (List Int))
 | [], P => some P
 | i :: is, P => if 0 ≤ i ∧ i < (next.length : Int) then (DomA.innerP next.length i (DomA.rdL next i) P).bind fun P' => predsF next is P' else none
/-- From where back edges come to a head. -/
def grpF (B : List (S29)) (h : Int) : List Int := (B.filter fun b => b.f1 == h).map fun b => b.f0
def headsF (B : List (S29)) : List Int := B.map fun b => b.f1
def loopsF (k : Nat) (P : List (List Int)) (g : Int → List Int) : List Int → List (S35) → Option (List (S35))
 | [], out => some out
 | h :: hs, out => (loop_body.f k P h (g h)).bind fun b => if out.length < 1000000000 then loopsF k P g hs (out ++ [⟨h, b, -1⟩]) else none
def outersF (k : Nat) : Nat → Nat → List (S35) → Option (List (S35))
 | 0, _, out => some out
 | r + 1, i, out => (loop_least.f k out (out.getD i z35).f0 (i : Int)).bind fun m => outersF k r (i + 1) (out.set i { out.getD i z35 with f2 := m })
def in64 (x : Int) : Bool := decide (-9223372036854775808 ≤ x) && decide (x ≤ 9223372036854775807)
def loop_Find.f (k : Nat) (l0 : List (List Int)) : Option (List (S35)) :=
  if l0.length ≤ 1000000000 then
  (dom_Order.f l0).bind fun ord => (predsF l0 ord (List.replicate l0.length [])).bind fun P => (loop_Backs.f k l0).bind fun B =>
  if B.length ≤ 1000000000 ∧ (B.all fun b => in64 b.f0 && in64 b.f1) = true then
  (slices_Sort_int_int.f (headsF B)).bind fun hs => (slices_Compact_int_int.f hs).bind fun hc =>
  if (hc.all in64) = true ∧ hc.length ≤ 1000000000 then (loopsF k P (grpF B) hc []).bind fun out => if out.length ≤ 1000000000 then outersF k out.length 0 out else none
  else none else none else none
theorem in64_w {x : Int} (h : in64 x = true) : w64 x := by
  unfold in64 at h
  rw [Bool.and_eq_true, decide_eq_true_eq, decide_eq_true_eq] at h
  simp [w64, Lit.wf, IntKind.min, IntKind.max, IntKind.signed, IntKind.bits]
  omega
/-! #### rounds -/
theorem goF_mono (P : List (List Int)) : ∀ K s q r, goF P K s q = some r → goF P (K + 1) s q = some r := by
  intro K
  induction K with
  | zero => intro s q r h; simp [goF] at h
  | succ K ih =>
    intro s q r h
    cases q with
    | nil => rw [goF] at h ⊢; exact h
    | cons i q =>
      rw [goF] at h ⊢
      split at h
      · rename_i hc
        rw [if_pos hc]
        obtain ⟨p, hp, h⟩ := Option.bind_eq_some_iff.mp h
        rw [hp]
        exact ih _ _ _ h
      · cases h
theorem loop_body.mono : ∀ a0 a1 a2 k, LeO (loop_body.f k a0 a1 a2) (loop_body.f (k + 1) a0 a1 a2) := by
  intro a0 a1 a2 k r h
  unfold loop_body.f at h ⊢
  split at h
  rotate_left
  · cases h
  rename_i hc
  rw [if_pos hc]
  obtain ⟨s0, h0, h⟩ := Option.bind_eq_some_iff.mp h
  obtain ⟨s1, h1, h⟩ := Option.bind_eq_some_iff.mp h
  obtain ⟨p, h2, h⟩ := Option.bind_eq_some_iff.mp h
  obtain ⟨s, h3, h⟩ := Option.bind_eq_some_iff.mp h
  rw [h0]
  simp only [Option.bind_some]
  rw [h1]
  simp only [Option.bind_some]
  rw [h2]
  simp only [Option.bind_some]
  rw [goF_mono _ _ _ _ _ h3]
  exact bits_Set_List.mono _ _ _ _ h
theorem loopsF_mono (k : Nat) (P : List (List Int)) (g : Int → List Int) : ∀ hs out r, loopsF k P g hs out = some r → loopsF (k + 1) P g hs out = some r := by
  intro hs
  induction hs with
  | nil => intro out r h; exact h
  | cons x hs ih =>
    intro out r h
    simp only [loopsF] at h ⊢
    obtain ⟨b, hb, h⟩ := Option.bind_eq_some_iff.mp h
    rw [loop_body.mono _ _ _ k _ hb]
    simp only [Option.bind_some]
    split at h
    · rename_i hc; rw [if_pos hc]; exact ih _ _ h
    · cases h
theorem outersF_mono (k : Nat) : ∀ n i out r, outersF k n i out = some r → outersF (k + 1) n i out = some r := by
  intro n
  induction n with
  | zero => intro i out r h; exact h
  | succ n ih =>
    intro i out r h
    simp only [outersF] at h ⊢
    obtain ⟨b, hb, h⟩ := Option.bind_eq_some_iff.mp h
    rw [loop_least.mono _ _ _ k _ hb]
    exact ih _ _ _ h
theorem loop_Find.mono : ∀ a0 k, LeO (loop_Find.f k a0) (loop_Find.f (k + 1) a0) := by
  intro a0 k r h
  unfold loop_Find.f at h ⊢
  split at h
  rotate_left
  · cases h
  rename_i hc
  rw [if_pos hc]
  obtain ⟨ord, h1, h⟩ := Option.bind_eq_some_iff.mp h
  obtain ⟨P, h2, h⟩ := Option.bind_eq_some_iff.mp h
  obtain ⟨B, h3, h⟩ := Option.bind_eq_some_iff.mp h
  rw [h1]
  simp only [Option.bind_some]
  rw [h2]
  simp only [Option.bind_some]
  rw [loop_Backs.mono _ _ _ h3]
  simp only [Option.bind_some]
  split at h
  rotate_left
  · cases h
  rename_i hc2
  rw [if_pos hc2]
  obtain ⟨hs, h4, h⟩ := Option.bind_eq_some_iff.mp h
  obtain ⟨hcc, h5, h⟩ := Option.bind_eq_some_iff.mp h
  rw [h4]
  simp only [Option.bind_some]
  rw [h5]
  simp only [Option.bind_some]
  split at h
  rotate_left
  · cases h
  rename_i hc3
  rw [if_pos hc3]
  obtain ⟨out, h6, h⟩ := Option.bind_eq_some_iff.mp h
  rw [loopsF_mono _ _ _ _ _ _ h6]
  simp only [Option.bind_some]
  split at h
  · rename_i hc4; rw [if_pos hc4]; exact outersF_mono _ _ _ _ _ h
  · cases h
/-! #### the row of rows of places ahead -/
def PO (w0 : World) (ok : Nat → Prop) (A : Option Addr) (n c : Nat) (P : List (List Int)) (W : World) : Prop := Kd.S (Kd.slice 3 (Kd.int .i64)) 26 W w0.heap.size ok (.slice A n c) P
theorem PO.elem {w0 : World} {ok : Nat → Prop} {A : Option Addr} {n c : Nat} {P : List (List Int)} {W : World} (h : PO w0 ok A n c P W) (i : Int) (h0 : 0 ≤ i) (h1 : i < (n : Int)) :
    ∃ (g : Nat) (A0 : Option Addr) (c0 : Nat) (oki : Nat → Prop), A = some ⟨g, 0, none⟩ ∧ ok g ∧ w0.heap.size ≤ g ∧ W.cell? ⟨g, i.toNat, none⟩ = some (.slice A0 (DomA.rdL P i).length c0) ∧ (Kd.R (Kd.int .i64) 3 W w0.heap.size oki (.slice A0 (DomA.rdL P i).length c0) (DomA.rdL P i)) ∧ (∀ k, oki k → ok k) ∧
      ∀ w1 v1 xs, Kd.R (Kd.int .i64) 3 w1 w0.heap.size (fun k => oki k ∨ ok k ∧ W.heap.size ≤ k) v1 xs → W.grownBy w1 (Value.slice A0 (DomA.rdL P i).length c0).ownBlock → (∃ u, w1.cell? ⟨g, i.toNat, none⟩ = some u) ∧ w1.frozen? ⟨g, i.toNat, none⟩ = false ∧ PO w0 ok A n c (P.set i.toNat xs) (w1.setCell ⟨g, i.toNat, none⟩ v1) ∧ w1.grownBy (w1.setCell ⟨g, i.toNat, none⟩ v1) (some g) := by
  have hl := (Kd.S_reads' h).1
  obtain ⟨g, cap, eo, gb, gl, cs, hc⟩ := Kd.S_form h (by omega)
  have eA : A = some ⟨g, 0, none⟩ := by injection eo
  subst eA
  have hg0 : ok g := (Kd.S_R h).1 g rfl
  obtain ⟨oki, ce, hcl, hM, hcc, _, hoki, hH⟩ := Kd.S_elem h [] i h0 h1
  obtain ⟨ve, rfl, ge⟩ := hM
  have hv := hcc 0 _ rfl
  simp only [Nat.add_zero, show ((Kd.slice 3 (Kd.int .i64))).sz = 1 from rfl, Nat.mul_one] at hv
  obtain ⟨A0, c0, e0⟩ := Kd.R_slice ge
  subst e0
  refine ⟨g, A0, c0, oki, rfl, hg0, gb, hv, ge, fun k hk => (hoki k hk).1, fun w1 v1 xs hr hg => ?_⟩
  have hH1 := Kd.H_grown (Kd.H_widen hH) hg (fun k_ e_ => .inl (ge.1 k_ e_))
  obtain ⟨_, _, hraw, _, _, hcc2, _⟩ := Kd.H_raw hH1 h0 h1
  obtain ⟨_, hfr⟩ := Kd.H_at hH1 h0 h1
  have hx := hcc2 0 _ rfl
  have hf := hfr 0
  have HP := Kd.S_seg0 hH1 h0 h1 (seg := [v1]) (j := 0) (show 1 ≤ 1 from by decide) (x' := xs) (Kd.M_row hr) (fun _ hk => hk)
  simp only [Nat.add_zero, show ((Kd.slice 3 (Kd.int .i64))).sz = 1 from rfl, Nat.mul_one] at hx hf HP
  exact ⟨⟨_, hx⟩, hf, HP.1, HP.2⟩
theorem PO.len {w0 : World} {ok : Nat → Prop} {A : Option Addr} {n c : Nat} {P : List (List Int)} {W : World} (h : PO w0 ok A n c P W) : n = P.length := (Kd.S_reads' h).1

theorem infoLp : (Tryd.prog.info? 35).map (fun i => (i.zero, i.size, i.bytes)) = some (some (.agg #[.int .i64 0, .slice none 0 0, .int .i64 0]), 3, 40) := by kernel_rfl
theorem wnx (i : Nat) (h : i < 4611686018427387904) : wrap64 ((i : Int) + 1) = ((i + 1 : Nat) : Int) := by
  unfold wrap64
  omega
theorem rdB (B : List (S29)) (m : Nat) (h : m < B.length) : rd_T29 B (m : Int) ∈ B ∧ B.take (m + 1) = B.take m ++ [rd_T29 B (m : Int)] := by
  have e : rd_T29 B (m : Int) = B[m] := by simp only [rd_T29, Int.toNat_natCast, List.getD_eq_getElem?_getD, List.getElem?_eq_getElem h, Option.getD_some]
  rw [e]
  exact ⟨List.getElem_mem h, by rw [List.take_add_one, List.getElem?_eq_getElem h]; rfl⟩
theorem grpF_snoc (L : List (S29)) (x y : Int) : grpF (L ++ [⟨x, y⟩]) = fun z => if z = y then grpF L y ++ [x] else grpF L z := by
  funext z
  unfold grpF
  rw [List.filter_append, List.map_append]
  by_cases e : z = y
  · subst e; simp
  · have : (y == z) = false := by simpa using fun h => e h.symm
    simp [if_neg e, this]
theorem headsF_snoc (L : List (S29)) (b : S29) : headsF (L ++ [b]) = headsF L ++ [b.f1] := by simp [headsF]
theorem headsF_len (L : List (S29)) : (headsF L).length = L.length := by simp [headsF]
set_option maxHeartbeats 16000000 in
set_option maxRecDepth 100000 in
theorem loop_Find.calls (k : Nat) (A0 : Option Addr) (c0 : Nat) (l0 : List (List Int)) (r : List (S35)) (w : World) (hr0 : Kd.C (Kd.slice 3 (Kd.int .i64)) w A0 l0.length l0) (hc0 : l0.length ≤ c0) (h : loop_Find.f k l0 = some r) (hL_ : Laid w) :
    Calls Tryd.prog 10 #[.slice A0 l0.length c0] w fun e w' => ∃ v0_ : Value, e = .returned v0_ ∧ Kd.S k35 35 w' w.heap.size (fun _ => True) v0_ r ∧ Below w.heap.size w w' := by
  unfold loop_Find.f at h
  split at h
  rotate_left
  · cases h
  rename_i hg1
  obtain ⟨ord, h1, h⟩ := Option.bind_eq_some_iff.mp h
  obtain ⟨P1, h2, h⟩ := Option.bind_eq_some_iff.mp h
  obtain ⟨B, h3, h⟩ := Option.bind_eq_some_iff.mp h
  split at h
  rotate_left
  · cases h
  rename_i hg2
  obtain ⟨hs, h4, h⟩ := Option.bind_eq_some_iff.mp h
  obtain ⟨hc, h5, h⟩ := Option.bind_eq_some_iff.mp h
  split at h
  rotate_left
  · cases h
  rename_i hg3
  obtain ⟨out, h6, h⟩ := Option.bind_eq_some_iff.mp h
  split at h
  rotate_left
  · cases h
  rename_i hg4
  have HG1 := Aside0.mk hg1
  have HG2 := Aside0.mk hg2
  have HG3 := Aside0.mk hg3
  have HG4 := Aside0.mk hg4
  have HO := Aside0.mk h1
  have HP := Aside0.mk h2
  have HBK := Aside0.mk h3
  have HS := Aside0.mk h4
  have HCP := Aside0.mk h5
  have HLP := Aside0.mk h6
  have HOU := Aside0.mk h
  have HR0 := Aside0.mk hr0
  have HC0 := Aside0.mk hc0
  have HL := Aside0.mk hL_
  have HB := Aside0.mk (Below.refl w.heap.size w)
  have z2 : (0 ≤ (l0.length : Int)) = True := eq_true (by omega)
  clear hg1 hg2 hg3 hg4 h1 h2 h3 h4 h5 h6 h hr0 hc0 hL_
  have hmm := @run_makeMap Tryd.prog
  go_enter Tryd.func10, Tryd.ntmps10
  go_wp2_with (first
    | ((with_reducible refine gate_dst (N := 18) rfl ?_); (try (refine gate_guard (by rfl) ?_; dsimp only)); refine Kd.S_make (Kd.slice 3 (Kd.int .i64)) (w0 := w) w.heap.size 26 rfl (N := 18) rfl 22 _ _ rfl (l0.length : Int) rfl rfl Tryd.underlying22 (.slice none 0 0) 24 DomA.infoS rfl (by decide) (by omega) [] (ok := fun _ => True) (okp := fun _ => True) ⟨_, rfl, Kd.R_nil _ _ _ _ _⟩ (fun _ hk => hk) trivial (by omega) (by have := HG1.out; omega) (Below.refl _ _) (Nat.le_refl _) ?_; intro v1 w1 ho1 hb1 hg_ hnew_; rw [Int.toNat_natCast] at ho1; obtain ⟨A3, c3, e3⟩ := Kd.S_slice ho1; rw [List.length_replicate] at e3; subst e3; have T1 := Aside0.mk ho1; have B1 := Aside0.mk hb1; clear ho1 hb1 hg_ hnew_)
    | (go_at_call 16; refine (dom_Order.calls A0 c0 l0 ord w1 (Kd.C_below HR0.out B1.out) HC0.out HO.out).mono ?_; rintro e w2 ⟨v2, rfl, ho, hb⟩; obtain ⟨Ao, co, eo⟩ := Kd.R_slice ho; subst eo; have O2 : Aside0 (Kd.R (Kd.int .i64) 3 w2 w.heap.size (fun k_ => w1.heap.size ≤ k_ ∧ k_ < w2.heap.size) (.slice Ao ord.length co) ord) := ⟨Kd.R_lower (Kd.R_mono (Kd.R_bound ho) (fun k_ hk => ⟨hk.2.1, hk.2.2.1⟩)) (below_size B1.out)⟩; have P2 : Aside0 (PO w (fun k_ => ¬ (w1.heap.size ≤ k_ ∧ k_ < w2.heap.size)) A3 l0.length c3 (List.replicate l0.length []) w2) := ⟨Kd.S_mono (Kd.S_below (Kd.S_bound T1.out) hb) (fun k_ hk => by have h_ := hk.2.2.1; omega)⟩; have B2 := Aside0.mk (below_step B1.out hb); have S2 : Aside0 (w2.heap.size ≤ w2.heap.size) := ⟨Nat.le_refl _⟩; clear ho hb))
  clear T1 B1
  go_loopw [22] (fun vi wr => ∃ (m : Nat) (P : List (List Int)), vi = .int .i64 (m : Int) ∧ m ≤ ord.length ∧ Aside0 (predsF l0 (ord.drop m) P = some P1) ∧ Aside0 (PO w (fun k_ => ¬ (w1.heap.size ≤ k_ ∧ k_ < w2.heap.size)) A3 l0.length c3 P wr) ∧ Aside0 (Kd.R (Kd.int .i64) 3 wr w.heap.size (fun k_ => w1.heap.size ≤ k_ ∧ k_ < w2.heap.size) (.slice Ao ord.length co) ord) ∧ Aside0 (Below w.heap.size w wr) ∧ Aside0 (w2.heap.size ≤ wr.heap.size)) (fun vi _ => ord.length - (intOf vi).toNat)
  case atStart => exact ⟨0, _, rfl, Nat.zero_le _, ⟨by rw [List.drop_zero]; exact HP.out⟩, P2, O2, B2, S2⟩
  case round =>
    obtain ⟨m, P, rfl, hm, hQ, hP, hO, hB, hS⟩ := hrel
    clear HP P2 O2 B2 S2
    by_cases hlt : m < ord.length
    · obtain ⟨ado, eA, hxo⟩ := Kd.at_int (Kd.R_reads' hO.out).2.2 (m : Int) (by omega) (by omega)
      subst eA
      rw [Int.toNat_natCast] at hxo
      have hdrop : ord.drop m = rd ord (m : Int) :: ord.drop (m + 1) := by
        rw [List.drop_eq_getElem_cons hlt]
        simp [rd, hlt]
      have hq := hQ.out
      rw [hdrop] at hq
      simp only [predsF] at hq
      clear hdrop hQ
      generalize rd ord (m : Int) = i at hxo hq
      split at hq
      rotate_left
      · cases hq
      rename_i hi
      obtain ⟨hi0, hi1⟩ := hi
      obtain ⟨P2, hq1, hq2⟩ := Option.bind_eq_some_iff.mp hq
      have HQ1 := Aside0.mk hq1
      have HQ2 := Aside0.mk hq2
      clear hq hq1 hq2
      obtain ⟨adn, A4, c4, eA, hxn, hl4, hr4⟩ := DomA.at_L HR0.out i hi0 (by omega)
      subst eA
      have hfz := (hB.out.cell (World.block_lt_of_cell? _ _ hxn)).trans hxn
      have hgn : ord.length < 4611686018427387904 := by have := (DomA.order_guard HO.out).1; omega
      have hgc : (DomA.rdL l0 i).length < 4611686018427387904 := (DomA.order_guard HO.out).2 i
      generalize hcs : DomA.rdL l0 i = cs at hxn hl4 hr4 HQ1 hfz hgc
      have HR4 := Aside0.mk hr4
      have HGN := Aside0.mk hgn
      have HGC := Aside0.mk hgc
      clear hxn hr4 hcs hl4
      have y0 : decide ((m : Int) < (ord.length : Int)) = true := decide_eq_true (by omega)
      have y1 : (m < ord.length) = True := eq_true hlt
      have q1 : (0 ≤ i) = True := eq_true hi0
      have q2 : (i < (l0.length : Int)) = True := eq_true hi1
      go_wp2
      clear hxo hfz
      go_loopw [31] (fun vi wr => ∃ (j : Nat) (P' : List (List Int)), vi = .int .i64 (j : Int) ∧ j ≤ cs.length ∧ Aside0 (DomA.innerP l0.length i (cs.drop j) P' = some P2) ∧ Aside0 (PO w (fun k_ => ¬ (w1.heap.size ≤ k_ ∧ k_ < w2.heap.size)) A3 l0.length c3 P' wr) ∧ Aside0 (Kd.R (Kd.int .i64) 3 wr w.heap.size (fun k_ => w1.heap.size ≤ k_ ∧ k_ < w2.heap.size) (.slice (some ado) ord.length co) ord) ∧ Aside0 (Below w.heap.size w wr) ∧ Aside0 (w2.heap.size ≤ wr.heap.size)) (fun vi _ => cs.length - (intOf vi).toNat)
      case atStart => exact ⟨0, _, rfl, Nat.zero_le _, ⟨by rw [List.drop_zero]; exact HQ1.out⟩, hP, hO, hB, hS⟩
      case round =>
        obtain ⟨j, P', rfl, hj, hQ, hP, hO, hB, hS⟩ := hrel
        clear HQ1
        by_cases hlt2 : j < cs.length
        · obtain ⟨ad4, e4, hx4⟩ := Kd.at_int (Kd.C_below HR4.out hB.out) (j : Int) (by omega) (by omega)
          rw [Int.toNat_natCast] at hx4
          subst e4
          have hdrop : cs.drop j = rd cs (j : Int) :: cs.drop (j + 1) := by
            rw [List.drop_eq_getElem_cons hlt2]
            simp [rd, hlt2]
          have hq := hQ.out
          rw [hdrop] at hq
          simp only [DomA.innerP] at hq
          clear hdrop hQ
          generalize rd cs (j : Int) = c at hx4 hq
          have y2 : decide ((j : Int) < (cs.length : Int)) = true := decide_eq_true (by omega)
          have y3 : (j < cs.length) = True := eq_true hlt2
          by_cases k0 : 0 ≤ c ∧ c < (l0.length : Int)
          · rw [if_pos k0] at hq
            split at hq
            rotate_left
            · cases hq
            rename_i hbig
            have HQ2' := Aside0.mk hq
            have HBIG := Aside0.mk hbig
            obtain ⟨k1, k2⟩ := k0
            clear hq hbig
            have k1b : decide (0 ≤ c) = true := decide_eq_true k1
            have k2b : decide (c < (l0.length : Int)) = true := decide_eq_true k2
            have k1t : (0 ≤ c) = True := eq_true k1
            have k2t : (c < (l0.length : Int)) = True := eq_true k2
            obtain ⟨g3, A5, c5, oki, e5, hs3, hw3, hx5, hr5, hok5, hput⟩ := hP.out.elem c k1 k2
            subst e5
            have HR5 := Aside0.mk hr5
            have HOK5 := Aside0.mk hok5
            have HPUT := Aside0.mk hput
            have HS3 := Aside0.mk hs3
            clear hr5 hok5 hput k1 k2 hs3
            generalize DomA.rdL P' c = el at *
            go_wp2_with ((with_reducible refine gate_builtin (b := .append) (xs := #[.tmp 48, .tmp 50]) rfl ?_); (try (refine gate_guard (by rfl) ?_; dsimp only)); at_builtin; refine Kd.R_append (Kd.int .i64) (w0 := w) w.heap.size rfl (.tmp 48) (.tmp 50) 26 3 (.int .i64 0) 8 rfl Tryd.underlying26 DomA.infoI rfl (by decide) (by omega) (.slice A5 el.length c5) el i [.int .i64 i] (fun k_ => oki k_ ∨ ¬ (w1.heap.size ≤ k_ ∧ k_ < w2.heap.size) ∧ wr.heap.size ≤ k_) (fun _ => False) rfl rfl ?aP (fun _ hk => hk.elim) ?aF ?aO ?aB ?aS ?aL ?_; (case aP => exact rfl); (case aB => exact hB.out); (case aF => exact (fun k_ hk => .inr ⟨fun h_ => by have := hS.out; omega, hk⟩)); (case aO => exact Kd.R_mono HR5.out (fun _ hk => .inl hk)); (case aS => exact below_size hB.out); (case aL => have := HBIG.out; omega); intro v10 w10 ho hb hg hat; obtain ⟨⟨u10, f10⟩, f11, hp10, hg10⟩ := HPUT.out w10 v10 _ ho hg; have O11 := Aside0.mk (Kd.R_grown (Kd.R_grown hO.out hg (fun k_ hk e => HOK5.out k_ (HR5.out.1 k_ e.symm) hk)) hg10 (fun k_ hk e => by injection e with e; subst e; exact HS3.out hk)); have P11 := Aside0.mk hp10; have B11 : Aside0 (Below w.heap.size w (w10.setCell ⟨g3, c.toNat, none⟩ v10)) := ⟨below_set hb hw3⟩; have S11 : Aside0 (w2.heap.size ≤ (w10.setCell ⟨g3, c.toNat, none⟩ v10).heap.size) := ⟨Nat.le_trans hS.out (Nat.le_trans hg.size hg10.size)⟩; obtain ⟨A10, c10, e10⟩ := Kd.R_slice ho; subst e10; clear ho hb hg hat hp10 hg10)
            have hgc := HGC.out
            go_roundw
            case rel => exact ⟨j + 1, _, by go_num, hlt2, HQ2', ⟨by have := P11.out; rw [List.length_append] at this; exact this⟩, ⟨by have := O11.out; rw [List.length_append] at this; exact this⟩, ⟨by have := B11.out; rw [List.length_append] at this; exact this⟩, ⟨by have := S11.out; rw [List.length_append] at this; exact this⟩⟩
            case measure => simp [intOf]; omega
          · rw [if_neg k0] at hq
            have HQ2' := Aside0.mk hq
            clear hq
            by_cases k1 : 0 ≤ c
            · have k1b : decide (0 ≤ c) = true := decide_eq_true k1
              have k2b : decide (c < (l0.length : Int)) = false := decide_eq_false (fun h => k0 ⟨k1, h⟩)
              clear k0
              go_wp2
              have hgc := HGC.out
              go_roundw
              case rel => exact ⟨j + 1, P', by go_num, hlt2, HQ2', hP, hO, hB, hS⟩
              case measure => simp [intOf]; omega
            · have k1b : decide (0 ≤ c) = false := decide_eq_false k1
              clear k0
              go_wp2
              have hgc := HGC.out
              go_roundw
              case rel => exact ⟨j + 1, P', by go_num, hlt2, HQ2', hP, hO, hB, hS⟩
              case measure => simp [intOf]; omega
        · obtain rfl : j = cs.length := by omega
          have hq := hQ.out
          rw [List.drop_length] at hq
          simp only [DomA.innerP, Option.some.injEq] at hq
          subst hq
          have y2 : decide ((cs.length : Int) < (cs.length : Int)) = false := decide_eq_false (by omega)
          clear hlt2 hj hQ
          go_wp2
          have hgn := HGN.out
          go_roundw
          case rel => exact ⟨m + 1, _, by go_num, hlt, HQ2, hP, hO, hB, hS⟩
          case measure => simp [intOf]; omega
    · obtain rfl : m = ord.length := by omega
      have hq := hQ.out
      rw [List.drop_length] at hq
      simp only [predsF, Option.some.injEq] at hq
      subst hq
      have y0 : decide ((ord.length : Int) < (ord.length : Int)) = false := decide_eq_false (by omega)
      clear hlt hm hQ hO hS HO
      obtain ⟨s1, hs1⟩ : ∃ s1, wr.heap.size = s1 := ⟨_, rfl⟩
      have M0 : Aside0 (Gm.G (wr.alloc (.map #[] 0)) s1 0 (grpF []) (fun _ => False)) := ⟨by rw [← hs1]; exact Gm.G.made wr _⟩
      have TT : Aside0 (PO w (fun k_ => k_ < s1) A3 l0.length c3 P (wr.alloc (.map #[] 0))) := ⟨Kd.S_alloc (Kd.S_mono (Kd.S_bound hP.out) (fun k hk => by have h_ := hk.2.2.1; rw [hs1] at h_; exact h_)) _⟩
      have BB : Aside0 (Below w.heap.size w (wr.alloc (.map #[] 0))) := ⟨below_alloc hB.out _⟩
      have SS : Aside0 (s1 < (wr.alloc (.map #[] 0)).heap.size) := ⟨Gm.G.lt M0.out⟩
      have WW : Aside0 (w.heap.size ≤ s1) := ⟨by rw [← hs1]; exact below_size hB.out⟩
      clear hP hB
      go_wp2_with (go_at_call 9; refine (loop_Backs.calls k A0 c0 l0 B _ (Kd.C_below HR0.out BB.out) HC0.out HBK.out).mono ?_; rintro e w3 ⟨v3, rfl, ho, hb⟩; obtain ⟨Ab, cb, eb⟩ := Kd.R_slice ho; subst eb; have K3 : Aside0 (Kd.R k29 29 w3 w.heap.size (fun k_ => s1 < k_) (.slice Ab B.length cb) B) := ⟨Kd.R_lower (Kd.R_mono (Kd.R_bound ho) (fun k_ hk => Nat.lt_of_lt_of_le SS.out hk.2.1)) (below_size BB.out)⟩; have T3 : Aside0 (PO w (fun k_ => k_ < s1) A3 l0.length c3 P w3) := ⟨Kd.S_below TT.out hb⟩; have M3 := Aside0.mk (Gm.G.below M0.out hb); have B3 := Aside0.mk (below_step BB.out hb); have S3 : Aside0 (s1 < w3.heap.size) := ⟨Nat.lt_of_lt_of_le SS.out hb.size⟩; clear ho hb)
      clear hmm hs1 M0 TT BB SS HBK
      go_loopw [9, 59] (fun v9 v59 wr => ∃ (m : Nat), v59 = .int .i64 (m : Int) ∧ m ≤ B.length ∧ Aside0 (PO w (fun k_ => k_ < s1) A3 l0.length c3 P wr) ∧ Aside0 (Below w.heap.size w wr) ∧ Aside0 (Gm.G wr s1 m (grpF (B.take m)) (fun k_ => some k_ = v9.ownBlock)) ∧ Aside0 (Kd.R (Kd.int .i64) 3 wr w.heap.size (fun k_ => s1 < k_) v9 (headsF (B.take m))) ∧ Aside0 (Kd.R k29 29 wr w.heap.size (fun k_ => s1 < k_) (.slice Ab B.length cb) B) ∧ Aside0 (s1 < wr.heap.size)) (fun _ vi _ => B.length - (intOf vi).toNat)
      case atStart => exact ⟨0, rfl, Nat.zero_le _, T3, B3, ⟨M3.out.reno (fun g h_ => by cases h_)⟩, ⟨Kd.R_nil _ _ _ _ _⟩, K3, S3⟩
      case round =>
        obtain ⟨m, rfl, hm, hP, hB, hM, hR, hK, hS⟩ := hrel
        clear T3 B3 M3 K3 S3
        obtain ⟨Ah, ch, eh⟩ := Kd.R_slice hR.out
        subst eh
        by_cases hlt : m < B.length
        · obtain ⟨adb, eA, hx, hy⟩ := at_T29 (Kd.R_reads' hK.out).2.2 (m : Int) (by omega) (by omega)
          subst eA
          rw [Int.toNat_natCast] at hx hy
          obtain ⟨hmem, htake⟩ := rdB B m hlt
          have hin := List.all_eq_true.mp HG2.out.2 _ hmem
          rw [Bool.and_eq_true] at hin
          obtain ⟨hin0, hin1⟩ := hin
          generalize rd_T29 B (m : Int) = b at hx hy htake hin0 hin1
          obtain ⟨x, y⟩ := b
          simp only at hx hy hin0 hin1
          have HT := Aside0.mk htake
          have HI0 := Aside0.mk (in64_w hin0)
          have HI1 := Aside0.mk (in64_w hin1)
          clear hin0 hin1 hmem htake
          have y0 : decide ((m : Int) < (B.length : Int)) = true := decide_eq_true (by omega)
          have y1 : (m < B.length) = True := eq_true hlt
          go_wp2_with ((with_reducible refine gate_dst (N := 11) rfl ?_); refine box_event ?hg (N := 11) ?hd (cs := #[.int .i64 0, .int .i64 0]) (t := 29) ?hr ?_; (case hd => rfl); (case hg => rfl); (case hr => first | (go_simp; done) | (go_simp; rfl)); intro gb hgb w5 hbox hb; have fb0 : w5.cell? ⟨gb, 0, none⟩ = some (.int .i64 0) := (blk_cell hbox 0).trans rfl; have fb1 : w5.cell? ⟨gb, 1, none⟩ = some (.int .i64 0) := (blk_cell hbox 1).trans rfl; have fz0 := blk_frozen hbox 0; have fz1 := blk_frozen hbox 1; have X5 := Aside0.mk hbox; have HB5 := Aside0.mk hb; have GB5 := Aside0.mk hgb; clear hbox hb hgb)
          obtain ⟨w6, hw6⟩ : ∃ w6 : World, w6 = ((w5.setCell ⟨gb, 0, none⟩ (.int .i64 x)).setCell ⟨gb, 1, none⟩ (.int .i64 y)) := ⟨_, rfl⟩
          rw [← hw6]
          have lg : wr.heap.size ≤ gb := Nat.le_of_eq GB5.out.symm
          have hbx : Below wr.heap.size wr w6.drew := by rw [hw6]; exact below_drew1 (below_set (below_set HB5.out lg) lg)
          have x6 : w6.drew.heap[gb]? = some (.cells #[.int .i64 x, .int .i64 y] 29 (0, 0)) := by rw [hw6]; exact blk_put (blk_put X5.out 0 _ rfl) 1 _ rfl
          have P6 : Aside0 (PO w (fun k_ => k_ < s1) A3 l0.length c3 P w6.drew) := ⟨Kd.S_below hP.out hbx⟩
          have M6 := hM.out.below hbx
          have R6 := Aside0.mk (Kd.R_below hR.out hbx)
          have K6 := Aside0.mk (Kd.R_below hK.out hbx)
          have B6 := Aside0.mk (below_step hB.out hbx)
          have S6 : Aside0 (s1 < w6.drew.heap.size) := ⟨Nat.lt_of_lt_of_le hS.out hbx.size⟩
          have X6 := Aside0.mk x6
          have LG : Aside0 (s1 < gb) := ⟨Nat.lt_of_lt_of_le hS.out lg⟩
          have f0 : w6.drew.cell? ⟨gb, 0, none⟩ = some (.int .i64 x) := (blk_cell x6 0).trans rfl
          have f1 : w6.drew.cell? ⟨gb, 1, none⟩ = some (.int .i64 y) := (blk_cell x6 1).trans rfl
          obtain ⟨v, hlk, hoi, hzl, hno, hback⟩ := M6.look (show m < maxLen by have := HG2.out.1; unfold maxLen; omega) HI1.out
          clear hw6 hbx x6 fb0 fb1 fz0 fz1 X5 HB5 GB5 lg hx hy hP hB hM hR hK hS
          generalize hzs : grpF (B.take m) y = zs at hoi hzl
          have hR0 : Kd.R (Kd.int .i64) 3 w6.drew (s1 + 1) (fun k_ => some k_ = v.ownBlock) v zs := Kd.R_of_own hoi.1 (fun k e => e.symm)
          obtain ⟨Av, cv, ev⟩ := Kd.R_slice hR0
          subst ev
          have HR0' := Aside0.mk hR0
          have HOI := Aside0.mk hoi.2
          have HZL : Aside0 (zs.length ≤ m ∧ m ≤ 1000000000) := ⟨hzl, by have := HG2.out.1; omega⟩
          have HNO := Aside0.mk hno
          have HBK := Aside0.mk hback
          have HZS := Aside0.mk hzs
          have HLK := Aside0.mk hlk
          have hlk0 := hlk _ rfl
          clear hR0 hoi hzl hno hback hzs M6 hlk
          refine start_ (n := 12) (S := fun w' => w'.cell? ⟨gb, 0, none⟩ = some (.int .i64 x) ∧ w'.cell? ⟨gb, 1, none⟩ = some (.int .i64 y) ∧ Sem.run Tryd.prog (Instr.lookup 47 (.map (some s1)) (.int .i64 y) false) w' = .ok (.slice Av zs.length cv) w') (ds := [11]) #[false, false, false, false, false, false, false, false, false, false, false, false] (by kernel_rfl) rfl rfl ⟨f0, f1, hlk0⟩ (fun hHeld => ?_)
          generalize w6.drew = w9 at f0 f1 P6 R6 K6 B6 S6 X6 HR0' HLK HBK hHeld ⊢
          refine pure_ (i := 0) (N := some 63) (v := ?_) (a' := ?_) #[true, false, false, false, false, false, false, false, false, false, false, false] rfl rfl (by kernel_rfl) (fun _ _ _ h => h) (Or.inl ⟨by rfl, ?_⟩) ?_ ?_
          rotate_left
          · intro w'
            go_simp
            with_reducible rfl
          rotate_left
          · simp only [Act.put, List.setIfInBounds_toArray, List.set_cons_zero, List.set_cons_succ, i64_w, i32_w]
            rfl
          refine pure_ (i := 1) (N := some 64) (v := ?_) (a' := ?_) #[true, true, false, false, false, false, false, false, false, false, false, false] rfl rfl (by kernel_rfl) (fun _ _ _ h => h) (Or.inl ⟨by rfl, ?_⟩) ?_ ?_
          rotate_left
          · intro w'
            go_simp
            with_reducible rfl
          rotate_left
          · simp only [Act.put, List.setIfInBounds_toArray, List.set_cons_zero, List.set_cons_succ, i64_w, i32_w]
            rfl
          refine pure_ (i := 3) (N := some 66) (v := ?_) (a' := ?_) #[true, true, false, true, false, false, false, false, false, false, false, false] rfl rfl (by kernel_rfl) (fun _ _ _ h => h) (Or.inl ⟨by rfl, ?_⟩) ?_ ?_
          rotate_left
          · intro w'
            go_simp
            with_reducible rfl
          rotate_left
          · simp only [Act.put, List.setIfInBounds_toArray, List.set_cons_zero, List.set_cons_succ, i64_w, i32_w]
            rfl
          refine pure_ (i := 4) (N := some 67) (v := ?_) (a' := ?_) #[true, true, false, true, true, false, false, false, false, false, false, false] rfl rfl (by kernel_rfl) (fun _ _ _ h => h) (Or.inl ⟨by rfl, ?_⟩) ?_ ?_
          rotate_left
          · intro w'
            go_simp
            with_reducible rfl
          rotate_left
          · simp only [Act.put, List.setIfInBounds_toArray, List.set_cons_zero, List.set_cons_succ, i64_w, i32_w]
            rfl
          refine pure_ (i := 7) (N := some 70) (v := ?_) (a' := ?_) #[true, true, false, true, true, false, false, true, false, false, false, false] rfl rfl (by kernel_rfl) (fun _ _ _ h => h) (Or.inl ⟨by rfl, ?_⟩) ?_ ?_
          rotate_left
          · intro w'
            go_simp
            with_reducible rfl
          rotate_left
          · simp only [Act.put, List.setIfInBounds_toArray, List.set_cons_zero, List.set_cons_succ, i64_w, i32_w]
            rfl
          refine take_ (i := 2) (N := some 65) (v := ?_) (a' := ?_) #[true, true, true, true, true, false, false, true, false, false, false, false] rfl rfl (by kernel_rfl) (fun _ _ _ h => h) (Or.inl ⟨by rfl, ?_⟩) hHeld ?_ ?_
          rotate_left
          · rintro w' ⟨s0, s1, s2⟩
            go_simp
            with_reducible rfl
          rotate_left
          · simp only [Act.put, List.setIfInBounds_toArray, List.set_cons_zero, List.set_cons_succ, i64_w, i32_w]
            rfl
          refine take_ (i := 5) (N := some 68) (v := ?_) (a' := ?_) #[true, true, true, true, true, true, false, true, false, false, false, false] rfl rfl (by kernel_rfl) (fun _ _ _ h => h) (Or.inl ⟨by rfl, ?_⟩) hHeld ?_ ?_
          rotate_left
          · rintro w' ⟨s0, s1, s2⟩
            go_simp
            with_reducible rfl
          rotate_left
          · simp only [Act.put, List.setIfInBounds_toArray, List.set_cons_zero, List.set_cons_succ, i64_w, i32_w]
            rfl
          refine take_ (i := 6) (N := some 69) (v := ?_) (a' := ?_) #[true, true, true, true, true, true, true, true, false, false, false, false] rfl rfl (by kernel_rfl) (fun _ _ _ h => h) (Or.inl ⟨by rfl, ?_⟩) hHeld ?_ ?_
          rotate_left
          · rintro w' ⟨s0, s1, s2⟩
            go_simp
            with_reducible rfl
          rotate_left
          · simp only [Act.put, List.setIfInBounds_toArray, List.set_cons_zero, List.set_cons_succ, i64_w, i32_w]
            rfl
          refine take_ (i := 8) (N := some 71) (v := ?_) (a' := ?_) #[true, true, true, true, true, true, true, true, true, false, false, false] rfl rfl (by kernel_rfl) (fun _ _ _ h => h) (Or.inl ⟨by rfl, ?_⟩) hHeld ?_ ?_
          rotate_left
          · rintro w' ⟨s0, s1, s2⟩
            go_simp
            with_reducible rfl
          rotate_left
          · simp only [Act.put, List.setIfInBounds_toArray, List.set_cons_zero, List.set_cons_succ, i64_w, i32_w]
            rfl
          refine one_ (i := 9) (N := some 72) #[true, true, true, true, true, true, true, true, true, true, false, false] rfl rfl (by kernel_rfl) (by decide) (fun K hK => ?_)
          refine value_ (w1 := ?_) (v := ?_) (by rfl) rfl ?_ ?_
          rotate_left 2
          · go_simp
            constructor
            · rfl
            · rfl
          refine hK.out _ _ ⟨((below_alloc (Below.refl _ _) _).cell (World.block_lt_of_cell? _ _ f0)).trans f0, ((below_alloc (Below.refl _ _) _).cell (World.block_lt_of_cell? _ _ f1)).trans f1, HLK.out _ ((below_alloc (Below.refl w9.heap.size w9) _).block s1 S6.out)⟩ (fun hHeld => ?_)
          clear hK K
          refine norm_ (a' := ?_) ?_ ?_
          rotate_left
          · show Act.put _ (some 72) _ = _
            simp only [Act.put, List.setIfInBounds_toArray, List.set_cons_zero, List.set_cons_succ, i64_w, i32_w]
            rfl
          refine one_ (i := 10) (N := some 73) #[true, true, true, true, true, true, true, true, true, true, true, false] rfl rfl (by kernel_rfl) (by decide) (fun K hK => ?_)
          refine Kd.R_append_step (Kd.int .i64) (w0 := w9) (s1 + 1) (by rfl) (.tmp 69) (.tmp 72) 26 3 (.int .i64 0) 8 rfl Tryd.underlying26 DomA.infoI rfl (by decide) (by omega) (.slice Av zs.length cv) zs x [.int .i64 x] (fun k_ => some k_ = (Value.slice Av zs.length cv).ownBlock ∨ w9.heap.size ≤ k_) (fun _ => False) rfl rfl ?aP (fun _ hk => hk.elim) ?aF ?aO ?aB ?aS ?aL ?_
          case aP => exact rfl
          case aB => exact Below.refl _ _
          case aF => exact fun k_ hk => .inr hk
          case aO => exact Kd.R_mono HR0'.out (fun _ hk => .inl hk)
          case aS => exact S6.out
          case aL => have := HZL.out; omega
          intro v7 w7 ho hb hg hat
          obtain ⟨A7, c7, e7⟩ := Kd.R_slice ho
          subst e7
          have hvt := Kd.R_typed HR0'.out
          have hhl : ∀ g, (Value.slice Ah (headsF (B.take m)).length ch).ownBlock = some g → g < w9.heap.size := fun g e => by
            obtain ⟨cs, hcs⟩ := Kd.R_typed R6.out g e
            exact blk_lt hcs
          obtain ⟨w8, hmu, hG8, hg8⟩ := HBK.out w7 (.slice A7 (zs ++ [x]).length c7) (zs ++ [x]) hg ⟨Kd.own_of_R ho, fun z hz => by
            rcases List.mem_append.1 hz with hz | hz
            · exact HOI.out z hz
            · simp at hz; subst hz; exact HI0.out⟩ (by rw [List.length_append]; have := HZL.out; simp; exact this.1) hat (fun g e e2 => by
            rcases hat with h_ | ⟨b_, h_, hb_⟩
            · exact HNO.out g (by rw [← h_]; exact e) e2
            · rw [e] at h_
              injection h_ with h_
              have := hhl g e2.symm
              omega)
          have vge : ∀ g, (Value.slice Av zs.length cv).ownBlock = some g → s1 + 1 ≤ g := fun g e => ((Kd.own_of_R HR0'.out).lt g e).1
          have hs1v : some s1 ≠ (Value.slice Av zs.length cv).ownBlock := fun e => by have := vge s1 e.symm; omega
          have P8 : Aside0 (PO w (fun k_ => k_ < s1) A3 l0.length c3 P w8) := ⟨Kd.S_grown (Kd.S_grown P6.out hg (fun k_ hk e => by have := vge k_ e.symm; have h_ : k_ < s1 := hk; omega)) hg8 (fun k_ hk e => by injection e with e; have h_ : k_ < s1 := hk; omega)⟩
          have R8 := Aside0.mk (Kd.R_grown (Kd.R_grown (Kd.R_mono (ok' := fun k_ => s1 < k_ ∧ some k_ = (Value.slice Ah (headsF (B.take m)).length ch).ownBlock) (Kd.R_tight rfl R6.out) (fun k_ hk => ⟨R6.out.1 k_ hk.symm, hk⟩)) hg (fun k_ hk e => HNO.out k_ e.symm hk.2)) hg8 (fun k_ hk e => by injection e with e; have := hk.1; omega))
          have K8 := Aside0.mk (Kd.R_grown (Kd.R_over' (v := .slice Av zs.length cv) K6.out hvt (by decide) hg) hg8 (fun k_ hk e => by injection e with e; have h_ : s1 < k_ := hk; omega))
          have x7 := blk_grown X6.out hg (fun e => by obtain ⟨cs, hcs⟩ := hvt gb e.symm; exact DomA.ne_of_type X6.out hcs (by decide) rfl)
          have x8 := blk_grown x7 hg8 (fun e => by injection e with e; have := LG.out; omega)
          have B8 : Aside0 (Below w.heap.size w w8) := ⟨(B6.out.grown hg (below_size B6.out) (fun g e => by have := vge g e; have := WW.out; omega)).grown hg8 (Nat.le_trans (below_size B6.out) hg.size) (fun g e => by injection e with e; have := WW.out; omega)⟩
          have S8 : Aside0 (s1 < w8.heap.size) := ⟨Nat.lt_of_lt_of_le S6.out (Nat.le_trans hg.size hg8.size)⟩
          have M8 := Aside0.mk hG8
          have X8 := Aside0.mk x8
          have f7 : w7.cell? ⟨gb, 0, none⟩ = some (.int .i64 x) := (blk_cell x7 0).trans rfl
          have f8 : w7.cell? ⟨gb, 1, none⟩ = some (.int .i64 y) := (blk_cell x7 1).trans rfl
          have f9 := HLK.out w7 (hg.block s1 S6.out hs1v)
          simp only [List.length_append, List.length_cons, List.length_nil, Nat.zero_add] at hmu
          clear ho hb hg hat hhl vge x7 x8 hG8 hg8 hvt hs1v
          refine hK.out _ _ ⟨f7, f8, f9⟩ (fun hHeld => ?_)
          clear hK K
          refine norm_ (a' := ?_) ?_ ?_
          rotate_left
          · show Act.put _ (some 73) _ = _
            simp only [Act.put, List.setIfInBounds_toArray, List.set_cons_zero, List.set_cons_succ, i64_w, i32_w]
            rfl
          refine last_ (i := 11) (N := none) #[true, true, true, true, true, true, true, true, true, true, true, true] rfl rfl (by kernel_rfl) (by decide) (fun K hK => ?_)
          refine skip_ (w1 := ?_) (by rfl) rfl ?_ ?_
          rotate_left
          · go_simp
            rfl
          refine hK.out _ _ ?_
          clear hK K
          refine done_ (by kernel_rfl) ?_
          have M8' : Aside0 (Gm.G w8 s1 (m + 1) (grpF (B.take (m + 1))) (fun k_ => some k_ = (Value.slice Ah (headsF (B.take m)).length ch).ownBlock)) := ⟨by rw [HT.out, grpF_snoc, HZS.out]; exact M8.out⟩
          have hhm : (headsF (B.take m)).length = m := by rw [headsF_len, List.length_take]; omega
          have hmB : m ≤ 1000000000 := by have := HG2.out.1; omega
          have f10 : w8.cell? ⟨gb, 1, none⟩ = some (.int .i64 y) := (blk_cell X8.out 1).trans rfl
          clear M8 hlk0 f0 f1 f7 f8 f9 hmu HLK HBK HNO HOI HR0' P6 R6 K6 B6 S6 X6 HZS HZL
          go_wp2_with (first
            | ((with_reducible refine gate_builtin (b := .append) (xs := #[.tmp 74, .tmp 77]) rfl ?_); (try (refine gate_guard (by rfl) ?_; dsimp only)); at_builtin; refine Kd.R_append (Kd.int .i64) (w0 := w) w.heap.size rfl (.tmp 74) (.tmp 77) 26 3 (.int .i64 0) 8 rfl Tryd.underlying26 DomA.infoI rfl (by decide) (by omega) (.slice Ah (headsF (B.take m)).length ch) (headsF (B.take m)) y [.int .i64 y] (fun k_ => s1 < k_) (fun _ => False) rfl rfl ?aP (fun _ hk => hk.elim) ?aF ?aO ?aB ?aS ?aL ?_; (case aP => exact rfl); (case aB => exact B8.out); (case aF => exact fun k_ hk => Nat.lt_of_lt_of_le S8.out hk); (case aO => exact Kd.R_mono R8.out (fun _ hk => hk.1)); (case aS => exact below_size B8.out); (case aL => omega); intro v10 w10 ho hb hg hat
               have hvt := Kd.R_typed R8.out
               have own1 : ∀ g, (Value.slice Ah (headsF (B.take m)).length ch).ownBlock = some g → s1 < g := fun g e => (R8.out.1 g e).1
               have P10 : Aside0 (PO w (fun k_ => k_ < s1) A3 l0.length c3 P w10) := ⟨Kd.S_grown P8.out hg (fun k_ hk e => by have := own1 k_ e.symm; have h_ : k_ < s1 := hk; omega)⟩
               have K10 := Aside0.mk (Kd.R_over' (v := .slice Ah (headsF (B.take m)).length ch) K8.out hvt (by decide) hg)
               have M10 : Aside0 (Gm.G w10 s1 (m + 1) (grpF (B.take (m + 1))) (fun k_ => some k_ = v10.ownBlock)) := ⟨((M8'.out.reno (No' := fun k_ => some k_ = (Value.slice Ah (headsF (B.take m)).length ch).ownBlock ∨ some k_ = v10.ownBlock) (fun g h_ => by
                 rcases h_ with h_ | h_
                 · exact .inl h_
                 · rcases hat with e | ⟨b_, e, hb_⟩
                   · exact .inl (h_.trans e)
                   · rw [e] at h_; injection h_ with h_; exact .inr (by omega))).keptNo hg (fun e => by have := own1 s1 e.symm; omega) (fun j e => .inl e.symm)).reno (fun g h_ => .inl (.inr h_))⟩
               have R10 := Aside0.mk ho
               have B10 := Aside0.mk hb
               have S10 : Aside0 (s1 < w10.heap.size) := ⟨Nat.lt_of_lt_of_le S8.out hg.size⟩
               obtain ⟨A10, c10, e10⟩ := Kd.R_slice ho
               subst e10
               clear ho hb hg hat hvt own1))
          have hmul := HG2.out.1
          go_roundw
          case rel => exact ⟨m + 1, by go_num, hlt, P10, B10, ⟨by have h_ := M10.out; rw [List.length_append, hhm] at h_; exact h_⟩, ⟨by have h_ := R10.out; rw [List.length_append, hhm] at h_; rw [HT.out, headsF_snoc]; exact h_⟩, K10, S10⟩
          case measure => simp [intOf]; omega
        · obtain rfl : m = B.length := by omega
          have y0 : decide ((B.length : Int) < (B.length : Int)) = false := decide_eq_false (by omega)
          rw [List.take_length] at hM hR
          clear hK hlt hm
          rw [List.take_length]
          have HMX := hM
          go_wp2_with (first
            | ((with_reducible refine gate_callee (f := 23) rfl ?_); refine goesL_ (some 81) rfl rfl Tryd.func23 (by kernel_rfl) rfl #[.slice Ah (headsF B).length ch] rfl (by (try simp only [List.map_toArray, List.map_cons, List.map_nil]); first | done | rfl) ?_; (with_reducible refine (slices_Sort_int_int.calls (fun k_ => some k_ = (.slice Ah (headsF B).length ch : Value).ownBlock) (.slice Ah (headsF B).length ch) (headsF B) hs w _ ?side1 ?side2 HS.out).mono ?_); (case side1 => exact hB.out); (case side2 => exact Kd.R_tight rfl hR.out); rintro e w6 ⟨rfl, hy0, hb6, hk6⟩; refine ⟨_, rfl, ?_⟩
               have own1 : ∀ g, (Value.slice Ah (headsF B).length ch).ownBlock = some g → s1 < g := fun g e => hR.out.1 g e
               have g6 : wr.grownBy w6 (Value.slice Ah (headsF B).length ch).ownBlock := ⟨hb6.os.trans hB.out.os.symm, hb6.tape.trans hB.out.tape.symm, hb6.output.trans hB.out.output.symm, hk6.1, fun k_ hk hne => hk6.2 k_ hk hne⟩
               have P6 : Aside0 (PO w (fun k_ => k_ < s1) A3 l0.length c3 P w6) := ⟨Kd.S_grown hP.out g6 (fun k_ hk e => by have := own1 k_ e.symm; have h_ : k_ < s1 := hk; omega)⟩
               have M6 := Aside0.mk (hM.out.keptNo g6 (fun e => by have := own1 s1 e.symm; omega) (fun j e => e.symm))
               have R6 : Aside0 (Kd.R (Kd.int .i64) 3 w6 w.heap.size (fun k_ => s1 < k_) (.slice Ah (headsF B).length ch) hs) := ⟨Kd.R_mono hy0 (fun k_ hk => by rcases hk with hk | hk; exact own1 k_ hk.symm; exact Nat.lt_of_lt_of_le hS.out hk)⟩
               have B6 := Aside0.mk hb6
               have S6 : Aside0 (s1 < w6.heap.size) := ⟨Nat.lt_of_lt_of_le hS.out hk6.1⟩
               clear hy0 hb6 hk6 own1 g6)
            | ((with_reducible refine gate_callee (f := 24) rfl ?_); refine goesL_ (some 83) rfl rfl Tryd.func24 (by kernel_rfl) rfl #[.slice Ah (headsF B).length ch] rfl (by (try simp only [List.map_toArray, List.map_cons, List.map_nil]); first | done | rfl) ?_; (with_reducible refine (slices_Compact_int_int.calls (fun k_ => some k_ = (.slice Ah (headsF B).length ch : Value).ownBlock) (.slice Ah (headsF B).length ch) hs hc w _ ?side1 ?side2 HCP.out).mono ?_); (case side1 => exact B6.out); (case side2 => exact Kd.R_tight rfl R6.out); rintro e w7 ⟨v7, rfl, hy0, hb6, hk6⟩; refine ⟨_, rfl, ?_⟩
               have own1 : ∀ g, (Value.slice Ah (headsF B).length ch).ownBlock = some g → s1 < g := fun g e => R6.out.1 g e
               have g6 : w6.grownBy w7 (Value.slice Ah (headsF B).length ch).ownBlock := ⟨hb6.os.trans B6.out.os.symm, hb6.tape.trans B6.out.tape.symm, hb6.output.trans B6.out.output.symm, hk6.1, fun k_ hk hne => hk6.2 k_ hk hne⟩
               have P7 : Aside0 (PO w (fun k_ => k_ < s1) A3 l0.length c3 P w7) := ⟨Kd.S_grown P6.out g6 (fun k_ hk e => by have := own1 k_ e.symm; have h_ : k_ < s1 := hk; omega)⟩
               have M7 : Aside0 (Gm.G w7 s1 B.length (grpF B) (fun _ => False)) := ⟨(M6.out.keptNo g6 (fun e => by have := own1 s1 e.symm; omega) (fun j e => e.symm)).reno (fun g h_ => by cases h_)⟩
               obtain ⟨Ac, cc, ec⟩ := Kd.R_slice hy0
               subst ec
               have R7 : Aside0 (Kd.R (Kd.int .i64) 3 w7 w.heap.size (fun k_ => s1 < k_) (.slice Ac hc.length cc) hc) := ⟨Kd.R_mono hy0 (fun k_ hk => by rcases hk with hk | hk; exact own1 k_ hk.symm; exact Nat.lt_of_lt_of_le S6.out hk)⟩
               have B7 := Aside0.mk hb6
               have S7 : Aside0 (s1 < w7.heap.size) := ⟨Nat.lt_of_lt_of_le S6.out hk6.1⟩
               clear hy0 hb6 hk6 own1 g6))
          clear hP hB hM hR hS P6 M6 R6 B6 S6 HMX
          go_loopw [12, 85] (fun v12 v85 wr => ∃ (m : Nat) (o : List (S35)), v85 = .int .i64 (m : Int) ∧ m ≤ hc.length ∧ Aside0 (loopsF k P (grpF B) (hc.drop m) o = some out) ∧ Aside0 (PO w (fun k_ => k_ < s1) A3 l0.length c3 P wr) ∧ Aside0 (Below w.heap.size w wr) ∧ Aside0 (Gm.G wr s1 B.length (grpF B) (fun _ => False)) ∧ Aside0 (Kd.R (Kd.int .i64) 3 wr w.heap.size (fun k_ => s1 < k_) (.slice Ac hc.length cc) hc) ∧ Aside0 (Kd.S k35 35 wr w.heap.size (fun k_ => s1 < k_) v12 o) ∧ Aside0 (s1 < wr.heap.size)) (fun _ vi _ => hc.length - (intOf vi).toNat)
          case atStart => exact ⟨0, _, rfl, Nat.zero_le _, ⟨by rw [List.drop_zero]; exact HLP.out⟩, P7, B7, M7, R7, ⟨Kd.S_nil _ _ _ _ _⟩, S7⟩
          case round =>
            obtain ⟨m, o, rfl, hm, hQ, hP, hB, hM, hR, hT, hS⟩ := hrel
            clear P7 B7 M7 R7 S7 HLP
            obtain ⟨Aq, cq, eq⟩ := Kd.S_slice hT.out
            subst eq
            by_cases hlt : m < hc.length
            · obtain ⟨adh, eA, hx⟩ := Kd.at_int (Kd.R_reads' hR.out).2.2 (m : Int) (by omega) (by omega)
              subst eA
              rw [Int.toNat_natCast] at hx
              have hdrop : hc.drop m = rd hc (m : Int) :: hc.drop (m + 1) := by
                rw [List.drop_eq_getElem_cons hlt]
                simp [rd, hlt]
              have hmem : rd hc (m : Int) ∈ hc := by simp [rd, hlt]
              have hin := List.all_eq_true.mp HG3.out.1 _ hmem
              have hq := hQ.out
              rw [hdrop] at hq
              simp only [loopsF] at hq
              clear hdrop hQ hmem
              generalize rd hc (m : Int) = h at hx hq hin
              obtain ⟨b, hq1, hq2⟩ := Option.bind_eq_some_iff.mp hq
              split at hq2
              rotate_left
              · cases hq2
              rename_i hbig
              have hPl := PO.len hP.out
              obtain ⟨v, hlk, hoi, hzl, hno, _⟩ := hM.out.look (show B.length < maxLen by have := HG2.out.1; unfold maxLen; omega) (in64_w hin)
              have hlk0 := hlk _ rfl
              have hR0 : Kd.R (Kd.int .i64) 3 wr (s1 + 1) (fun k_ => True) v (grpF B h) := Kd.R_of_own hoi.1 (fun k e => trivial)
              obtain ⟨Av, cv, ev⟩ := Kd.R_slice hR0
              subst ev
              have hcall := loop_body.calls k A3 c3 P h Av cv (grpF B h) b wr (Kd.S_reads' hP.out).2.2 (by rw [← hPl]; exact (Kd.S_reads' hP.out).2.1) (Kd.R_reads' hR0).2.2 hq1 (Laid.below HL.out hB.out)
              rw [← hPl] at hcall
              have HCL := Aside0.mk hcall
              have HQ2 := Aside0.mk hq2
              have HBIG := Aside0.mk hbig
              generalize grpF B h = zs at hlk0 HCL
              have y0 : decide ((m : Int) < (hc.length : Int)) = true := decide_eq_true (by omega)
              have y1 : (m < hc.length) = True := eq_true hlt
              clear hq hq1 hq2 hbig hcall hR0 hoi hzl hno hlk hin hPl
              go_wp2_with (first
                | (go_at_call 25; refine HCL.out.mono ?_; rintro e w5 ⟨v5, rfl, ho, hb⟩
                   obtain ⟨A5, c5, e5⟩ := Kd.R_slice ho
                   subst e5
                   have P5 : Aside0 (PO w (fun k_ => k_ < s1) A3 l0.length c3 P w5) := ⟨Kd.S_below hP.out hb⟩
                   have M5 := Aside0.mk (hM.out.below hb)
                   have R5 := Aside0.mk (Kd.R_below hR.out hb)
                   have T5 := Aside0.mk (Kd.S_below (Kd.S_mono (ok' := fun k_ => s1 < k_ ∧ ¬ wr.heap.size ≤ k_) (Kd.S_bound hT.out) (fun k_ hk => ⟨hk.1, by have := hk.2.2.1; omega⟩)) hb)
                   have B5 := Aside0.mk (below_step hB.out hb)
                   have S5 : Aside0 (s1 < w5.heap.size) := ⟨Nat.lt_of_lt_of_le hS.out hb.size⟩
                   have V5 : Aside0 (Kd.R (Kd.int .i64) 3 w5 w.heap.size (fun k_ => wr.heap.size ≤ k_) (.slice A5 b.length c5) b) := ⟨Kd.R_lower (Kd.R_mono (Kd.R_bound ho) (fun k_ hk => hk.2.1)) (below_size hB.out)⟩
                   have Q5 : Aside0 (∀ g, (Value.slice Aq o.length cq).ownBlock = some g → g < wr.heap.size) := ⟨fun g e => by obtain ⟨cs, hcs⟩ := Kd.S_typed hT.out g e; exact blk_lt hcs⟩
                   clear ho hb)
                | ((with_reducible refine gate_builtin (b := .append) (xs := #[.tmp 89, .tmp 98]) rfl ?_); (try (refine gate_guard (by rfl) ?_; dsimp only)); at_builtin; refine Kd.S_append k35 (w0 := w) w.heap.size rfl (.tmp 89) (.tmp 98) 31 35 (.agg #[.int .i64 0, .slice none 0 0, .int .i64 0]) 40 rfl Tryd.underlying31 infoLp rfl (by decide) (by omega) (.slice Aq o.length cq) o ⟨h, b, -1⟩ [.int .i64 h, .slice A5 b.length c5, .int .i64 (-1)] (fun k_ => s1 < k_) (fun k_ => wr.heap.size ≤ k_) rfl rfl ?aP ?aK ?aF ?aO ?aB ?aS ?aL ?_; (case aP => exact k35_mkM _ _ _ ⟨h, b, -1⟩ V5.out); (case aK => exact fun k_ hk => ⟨Nat.lt_of_lt_of_le hS.out hk, fun e => by have := Q5.out k_ e.symm; omega⟩); (case aB => exact B5.out); (case aF => exact fun k_ hk => Nat.lt_of_lt_of_le S5.out hk); (case aO => exact T5.out); (case aS => exact below_size B5.out); (case aL => have := HBIG.out; omega); intro v10 w10 ho hb hg hat
                   have hvt := Kd.S_typed T5.out
                   have own1 : ∀ g, (Value.slice Aq o.length cq).ownBlock = some g → s1 < g := fun g e => ((Kd.S_R T5.out).1 g e).1
                   have P10 : Aside0 (PO w (fun k_ => k_ < s1) A3 l0.length c3 P w10) := ⟨Kd.S_grown P5.out hg (fun k_ hk e => by have := own1 k_ e.symm; have h_ : k_ < s1 := hk; omega)⟩
                   have R10 := Aside0.mk (Kd.R_over' (v := .slice Aq o.length cq) R5.out hvt (by decide) hg)
                   have M10 := Aside0.mk (M5.out.typed hg (fun j e => by obtain ⟨cs, hcs⟩ := hvt j e; exact ⟨cs, _, hcs, by decide⟩))
                   have T10 := Aside0.mk ho
                   have B10 := Aside0.mk hb
                   have S10 : Aside0 (s1 < w10.heap.size) := ⟨Nat.lt_of_lt_of_le S5.out hg.size⟩
                   obtain ⟨A10, c10, e10⟩ := Kd.S_slice ho
                   subst e10
                   clear ho hb hg hat hvt own1))
              have hcl := HG3.out.2
              go_roundw
              case rel => exact ⟨m + 1, _, by rw [wnx m (by omega)], hlt, HQ2, P10, B10, M10, R10, ⟨by have h_ := T10.out; rw [List.length_append] at h_; exact h_⟩, S10⟩
              case measure => rw [wnx m (by omega)]; simp only [intOf, Int.toNat_natCast]; omega
            · obtain rfl : m = hc.length := by omega
              have hq := hQ.out
              rw [List.drop_length] at hq
              simp only [loopsF, Option.some.injEq] at hq
              subst hq
              have y0 : decide ((hc.length : Int) < (hc.length : Int)) = false := decide_eq_false (by omega)
              clear hlt hm hQ hP hM hR hS
              have T0 := Aside0.mk (Kd.S_mono (ok' := fun _ => True) hT.out (fun _ _ => trivial))
              obtain ⟨n, hn⟩ : ∃ n, n = o.length := ⟨_, rfl⟩
              rw [← hn] at T0 HOU HG4 ⊢
              have HN := Aside0.mk hn.symm
              clear hT hn
              go_wp2
              go_loopw [103] (fun vi wr => ∃ (m : Nat) (o : List (S35)), vi = .int .i64 (m : Int) ∧ m ≤ n ∧ Aside0 (o.length = n) ∧ Aside0 (outersF k (n - m) m o = some r) ∧ Aside0 (Kd.S k35 35 wr w.heap.size (fun _ => True) (.slice Aq n cq) o) ∧ Aside0 (Below w.heap.size w wr)) (fun vi _ => n - (intOf vi).toNat)
              case atStart => exact ⟨0, _, rfl, Nat.zero_le _, HN, ⟨by rw [Nat.sub_zero]; exact HOU.out⟩, T0, hB⟩
              case round =>
                obtain ⟨m, o, rfl, hm, hN, hQ, hT, hB⟩ := hrel
                clear HN HOU T0
                by_cases hlt : m < n
                · have hq := hQ.out
                  rw [show n - m = (n - (m + 1)) + 1 by omega] at hq
                  simp only [outersF] at hq
                  obtain ⟨mm, hq1, hq2⟩ := Option.bind_eq_some_iff.mp hq
                  obtain ⟨g, cap, eo, gb, gl, cs, hcs⟩ := Kd.S_form hT.out (by rw [hN.out]; omega)
                  obtain rfl : Aq = some ⟨g, 0, none⟩ := by injection eo
                  obtain ⟨oki, c, hcl, hM, hcc, _, hoki, hH⟩ := Kd.S_elem hT.out z35 (m : Int) (by omega) (by omega)
                  obtain ⟨v1, rfl, gv1⟩ := k35_openM hM
                  rw [Int.toNat_natCast] at hcc gv1
                  have e0 : (o.getD m z35) = rd_T35 o (m : Int) := by simp [rd_T35]
                  have hx : wr.cell? ⟨g, m * 3, none⟩ = some (.int .i64 (o.getD m z35).f0) := hcc 0 _ rfl
                  have hy : wr.cell? ⟨g, m * 3 + 2, none⟩ = some (.int .i64 (o.getD m z35).f2) := hcc 2 _ rfl
                  have hz : wr.frozen? ⟨g, m * 3 + 2, none⟩ = false := blk_frozen hcs _
                  have hcall := loop_least.calls k (some ⟨g, 0, none⟩) cq o (o.getD m z35).f0 (m : Int) mm wr (Kd.S_reads' hT.out).2.2 (by rw [hN.out]; exact (Kd.S_reads' hT.out).2.1) hq1
                  rw [hN.out] at hcall
                  have HCL := Aside0.mk hcall
                  have HQ2 := Aside0.mk hq2
                  have hlast : ∀ w5, Below wr.heap.size wr w5 → Kd.S k35 35 (w5.setCell ⟨g, m * 3 + 2, none⟩ (.int .i64 mm)) w.heap.size (fun _ => True) (.slice (some ⟨g, 0, none⟩) n cq) (o.set m { o.getD m z35 with f2 := mm }) := by
                    intro w5 hb
                    have hH1 := Kd.H_grown hH (grown_of_below hb none) (fun k_ e_ => by cases e_)
                    have HP := Kd.S_seg0 hH1 (by omega : (0 : Int) ≤ (m : Int)) (by omega) (seg := [.int .i64 mm]) (j := 2) (Nat.le_refl 3) (x' := { o.getD m z35 with f2 := mm }) (k35_mkM _ _ _ { o.getD m z35 with f2 := mm } (Kd.R_below gv1 hb)) (fun _ hk => hk)
                    rw [Int.toNat_natCast] at HP
                    exact HP.1
                  have HLA := Aside0.mk hlast
                  have HXC := Aside0.mk hcs
                  have HY := Aside0.mk hy
                  have HZ := Aside0.mk hz
                  have HGB := Aside0.mk gb
                  generalize (o.getD m z35).f0 = hd at hx HCL
                  have y0 : decide ((m : Int) < (n : Int)) = true := decide_eq_true (by omega)
                  have y1 : (m < n) = True := eq_true hlt
                  clear hq hq1 hq2 hcall hlast hcs hy hz hcc gv1 e0 hM hcl eo gb gl hQ hH hoki
                  go_wp2_with (go_at_call 26; refine HCL.out.mono ?_; rintro e w5 ⟨rfl, hb⟩; have f5 : (w5.cell? ⟨g, m * 3 + 2, none⟩).isSome = true := by rw [(hb.cell (World.block_lt_of_cell? _ _ HY.out)).trans HY.out]; rfl
                               have f6 : w5.cell? ⟨g, m * 3 + 2, none⟩ = some (.int .i64 (o.getD m z35).f2) := (hb.cell (World.block_lt_of_cell? _ _ HY.out)).trans HY.out
                               have f7 : w5.frozen? ⟨g, m * 3 + 2, none⟩ = false := blk_frozen (blk_below HXC.out hb) _
                               have L5 := Aside0.mk (HLA.out w5 hb)
                               have B5 : Aside0 (Below w.heap.size w (w5.setCell ⟨g, m * 3 + 2, none⟩ (.int .i64 mm))) := ⟨below_set (below_step hB.out hb) HGB.out⟩
                               clear hb)
                  have hn4 := HG4.out
                  go_roundw
                  case rel => exact ⟨m + 1, _, by rw [wnx m (by omega)], hlt, ⟨by rw [List.length_set]; exact hN.out⟩, HQ2, L5, B5⟩
                  case measure => rw [wnx m (by omega)]; simp only [intOf, Int.toNat_natCast]; omega
                · obtain rfl : m = n := by omega
                  have hq := hQ.out
                  rw [Nat.sub_self] at hq
                  simp only [outersF, Option.some.injEq] at hq
                  subst hq
                  have y0 : decide ((m : Int) < (m : Int)) = false := decide_eq_false (by omega)
                  clear hlt hm hQ
                  go_wp2
                  go_ret
                  exact ⟨_, rfl, by have h_ := hT.out; exact h_, hB.out⟩
end Go.Proofs.YtfiffhcpgojkhaaDoor.QLoopNests
