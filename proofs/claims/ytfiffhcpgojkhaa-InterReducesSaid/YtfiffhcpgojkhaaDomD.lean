/- What dom.Idom computes, in plain words; the world while it runs. No condition. -/
import Derived.Test.YtfiffhcpgojkhaaDomC
namespace Go.Proofs.Ytfiffhcpgojkhaa
open Go.RowKit Go.Proofs.YtfiffhcpgojkhaaW.PrintWords Go.Proofs.YtfiffhcpgojkhaaW.PrintLast Go.Proofs.YtfiffhcpgojkhaaW.PrintMore Go.Proofs.Ytfiffhcpgojkhaa.DomF
set_option linter.unusedVariables false
set_option linter.unusedSimpArgs false
namespace DomA
def innerP (n : Nat) (i : Int) : List Int → List (List Int) → Option (List (List Int))
  | [], P => some P
  | c :: cs, P => if 0 ≤ c ∧ c < (n : Int) then (if (rdL P c).length < 17592186044416 then innerP n i cs (P.set c.toNat (rdL P c ++ [i])) else none) else innerP n i cs P
def outerP (next : List (List Int)) : List Int → Nat → List Int → List (List Int) → Option (List Int × List (List Int))
  | [], _, T, P => some (T, P)
  | i :: is, m, T, P => if 0 ≤ i ∧ i < (next.length : Int) then (innerP next.length i (rdL next i) P).bind fun P' => outerP next is (m + 1) (T.set i.toNat (m : Int)) P' else none
def bestF (K : Nat) (T D : List Int) : List Int → Int → Option Int
  | [], b => some b
  | p :: ps, b => if 0 ≤ p ∧ p < (D.length : Int) then (if rd D p < 0 then bestF K T D ps b else if b < 0 then bestF K T D ps p else (meetF T D K b p).bind fun m => bestF K T D ps m) else none
def passF (K : Nat) (T : List Int) (P : List (List Int)) : List Int → List Int → Bool → Option (List Int × Bool)
  | [], D, more => some (D, more)
  | i :: is, D, more => if 0 ≤ i ∧ i < (D.length : Int) ∧ (rdL P i).length < 4611686018427387904 then (bestF K T D (rdL P i) (-1)).bind fun b => if b = rd D i then passF K T P is D more else passF K T P is (D.set i.toNat b) true else none
def roundsF (K : Nat) (T : List Int) (P : List (List Int)) (ord : List Int) : Nat → List Int → Option (List Int)
  | 0, _ => none
  | r + 1, D => (passF K T P ord D false).bind fun p => if p.2 = true then roundsF K T P ord r p.1 else some p.1
def idomF (K : Nat) (next : List (List Int)) (ord : List Int) : Option (List Int) :=
  if ord.length = 0 then some (List.replicate next.length (-1)) else
  (outerP next ord 0 (List.replicate next.length (-1)) (List.replicate next.length [])).bind fun TP => (roundsF K TP.1 TP.2 ord.tail K ((List.replicate next.length (-1)).set 0 0)).map fun D => D.set 0 (-1)
/-- The numbers of blocks and what stands in line. -/
structure Ix where
  bt : Nat
  bi : Nat
  A1 : Option Addr
  A2 : Option Addr
  c1 : Nat
  c2 : Nat
  n : Nat
  ov : Value
  s1 : Nat
  s2 : Nat
  s3 : Nat
/-- The world while nearest dominators are found. -/
structure DI (w0 : World) (x : Ix) (T D ord : List Int) (W : World) : Prop where
  below : Below w0.heap.size w0 W
  ht : W.heap[x.bt]? = some (.cells #[.slice x.A1 x.n x.c1] 27 (0, 0))
  hd : W.heap[x.bi]? = some (.cells #[.slice x.A2 x.n x.c2] 27 (0, 0))
  rt : Kd.R (Kd.int .i64) 3 W w0.heap.size (fun k => x.s1 ≤ k ∧ k < x.s2) (.slice x.A1 x.n x.c1) T
  rd : Kd.R (Kd.int .i64) 3 W w0.heap.size (fun k => x.s2 ≤ k ∧ k < x.s3) (.slice x.A2 x.n x.c2) D
  ro : Kd.R (Kd.int .i64) 3 W w0.heap.size (fun k => k < x.s1) x.ov ord
  lt : x.bt < x.s3
  li : x.bi < x.s3
  l0 : w0.heap.size ≤ x.s1
  l1 : x.s1 ≤ x.s2
  l2 : x.s2 ≤ x.s3
  sz : x.s3 ≤ W.heap.size
theorem DI.drewN {w0 : World} {x : Ix} {T D ord : List Int} {W : World} (h : DI w0 x T D ord W) (m : Nat) : DI w0 x T D ord (W.drewN m) := by
  obtain ⟨h1, h2, h3, h4, h5, h6, h7, h8, h9, h10, h11, h12⟩ := h
  exact ⟨pw_below_drewN h1 _, h2, h3, Kd.R_drewN h4 _, Kd.R_drewN h5 _, Kd.R_drewN h6 _, h7, h8, h9, h10, h11, h12⟩
theorem DI.drew {w0 : World} {x : Ix} {T D ord : List Int} {W : World} (h : DI w0 x T D ord W) : DI w0 x T D ord W.drew := by
  obtain ⟨h1, h2, h3, h4, h5, h6, h7, h8, h9, h10, h11, h12⟩ := h
  exact ⟨below_drew1 h1, h2, h3, Kd.R_drew h4, Kd.R_drew h5, Kd.R_drew h6, h7, h8, h9, h10, h11, h12⟩
theorem DI.other {w0 : World} {x : Ix} {T D ord : List Int} {W W2 : World} (h : DI w0 x T D ord W) {row : Option Nat} (hg : W.grownBy W2 row) (hr : ∀ k, row = some k → x.s3 ≤ k) (hb : Below w0.heap.size w0 W2) : DI w0 x T D ord W2 := by
  obtain ⟨h1, h2, h3, h4, h5, h6, h7, h8, h9, h10, h11, h12⟩ := h
  refine ⟨hb, blk_grown h2 hg ?_, blk_grown h3 hg ?_, Kd.R_grown h4 hg ?_, Kd.R_grown h5 hg ?_, Kd.R_grown h6 hg ?_, h7, h8, h9, h10, h11, Nat.le_trans h12 hg.size⟩
  · intro e; have := hr _ e.symm; omega
  · intro e; have := hr _ e.symm; omega
  · intro k hk e; have := hr _ e.symm; omega
  · intro k hk e; have := hr _ e.symm; omega
  · intro k hk e; have := hr _ e.symm; omega
theorem DI.T {w0 : World} {x : Ix} {T D ord : List Int} {W : World} (h : DI w0 x T D ord W) (i : Int) (h0 : 0 ≤ i) (h1 : i < (x.n : Int)) :
    ∃ g, x.A1 = some ⟨g, 0, none⟩ ∧ g ≠ x.bt ∧ g ≠ x.bi ∧ g < x.s3 ∧ W.cell? ⟨g, i.toNat, none⟩ = some (.int .i64 (Go.Proofs.YtfiffhcpgojkhaaW.PrintWords.rd T i)) ∧ W.frozen? ⟨g, i.toNat, none⟩ = false ∧ ∀ v, DI w0 x (T.set i.toNat v) D ord (W.setCell ⟨g, i.toNat, none⟩ (.int .i64 v)) ∧ W.grownBy (W.setCell ⟨g, i.toNat, none⟩ (.int .i64 v)) (some g) := by
  have hl := (Kd.R_reads' h.rt).1
  obtain ⟨g, cap, eo, gb, gl, cs, hc⟩ := Kd.R_form h.rt (by omega)
  have eA : x.A1 = some ⟨g, 0, none⟩ := by injection eo
  have hk := h.rt.1 g (by rw [eA]; rfl)
  have h4 := h.rt
  rw [eA] at h4
  obtain ⟨c1, c2⟩ := Kd.R_celln (0 : Int) h4 i h0 h1
  refine ⟨g, eA, (ne_of_type h.ht hc (by decide)).symm, (ne_of_type h.hd hc (by decide)).symm, by have := h.l2; omega, c1, c2, fun v => ?_⟩
  obtain ⟨hp, hg⟩ := Kd.R_putg h4 i v
  refine ⟨⟨below_set h.below gb, blk_grown h.ht hg ?_, blk_grown h.hd hg ?_, ?_, Kd.R_grown h.rd hg ?_, Kd.R_grown h.ro hg ?_, h.lt, h.li, h.l0, h.l1, h.l2, Nat.le_trans h.sz hg.size⟩, hg⟩
  · intro e; injection e with e; exact ne_of_type h.ht hc (by decide) e
  · intro e; injection e with e; exact ne_of_type h.hd hc (by decide) e
  · rw [eA]; exact hp
  · intro k hk2 e; injection e with e; omega
  · intro k hk2 e; injection e with e; omega
theorem DI.D {w0 : World} {x : Ix} {T D ord : List Int} {W : World} (h : DI w0 x T D ord W) (i : Int) (h0 : 0 ≤ i) (h1 : i < (x.n : Int)) :
    ∃ g, x.A2 = some ⟨g, 0, none⟩ ∧ g ≠ x.bt ∧ g ≠ x.bi ∧ g < x.s3 ∧ W.cell? ⟨g, i.toNat, none⟩ = some (.int .i64 (Go.Proofs.YtfiffhcpgojkhaaW.PrintWords.rd D i)) ∧ W.frozen? ⟨g, i.toNat, none⟩ = false ∧ ∀ v, DI w0 x T (D.set i.toNat v) ord (W.setCell ⟨g, i.toNat, none⟩ (.int .i64 v)) ∧ W.grownBy (W.setCell ⟨g, i.toNat, none⟩ (.int .i64 v)) (some g) := by
  have hl := (Kd.R_reads' h.rd).1
  obtain ⟨g, cap, eo, gb, gl, cs, hc⟩ := Kd.R_form h.rd (by omega)
  have eA : x.A2 = some ⟨g, 0, none⟩ := by injection eo
  have hk := h.rd.1 g (by rw [eA]; rfl)
  have h4 := h.rd
  rw [eA] at h4
  obtain ⟨c1, c2⟩ := Kd.R_celln (0 : Int) h4 i h0 h1
  refine ⟨g, eA, (ne_of_type h.ht hc (by decide)).symm, (ne_of_type h.hd hc (by decide)).symm, by omega, c1, c2, fun v => ?_⟩
  obtain ⟨hp, hg⟩ := Kd.R_putg h4 i v
  refine ⟨⟨below_set h.below gb, blk_grown h.ht hg ?_, blk_grown h.hd hg ?_, Kd.R_grown h.rt hg ?_, ?_, Kd.R_grown h.ro hg ?_, h.lt, h.li, h.l0, h.l1, h.l2, Nat.le_trans h.sz hg.size⟩, hg⟩
  · intro e; injection e with e; exact ne_of_type h.ht hc (by decide) e
  · intro e; injection e with e; exact ne_of_type h.hd hc (by decide) e
  · intro k hk2 e; injection e with e; omega
  · rw [eA]; exact hp
  · intro k hk2 e; injection e with e; have := h.l1; omega
theorem DI.ne {w0 : World} {x : Ix} {T D ord : List Int} {W : World} (h : DI w0 x T D ord W) {g g' : Nat} (h1 : x.A1 = some ⟨g, 0, none⟩) (h2 : x.A2 = some ⟨g', 0, none⟩) : g ≠ g' := by
  have a := h.rt.1 g (by rw [h1]; rfl)
  have b := h.rd.1 g' (by rw [h2]; rfl)
  omega
theorem DI.O {w0 : World} {x : Ix} {T D ord : List Int} {W : World} (h : DI w0 x T D ord W) (i : Int) (h0 : 0 ≤ i) (h1 : i < (ord.length : Int)) : ∃ ad c, x.ov = .slice (some ad) ord.length c ∧ ord.length ≤ c ∧ W.cell? (ad.add i.toNat) = some (.int .i64 (Go.Proofs.YtfiffhcpgojkhaaW.PrintWords.rd ord i)) := by
  obtain ⟨A, c, e, hc, hC⟩ := Kd.R_reads h.ro
  obtain ⟨ad, e2, hx⟩ := Kd.at_int hC i h0 h1
  exact ⟨ad, c, by rw [e, e2], hc, hx⟩
theorem repl_of {L : List Int} {n : Nat} (hl : L.length = n) (h : ∀ q, q < n → L.getD q 0 = -1) : L = List.replicate n (-1) := by
  apply List.ext_getElem (by simpa using hl)
  intro q h1 h2
  have := h q (by omega)
  simpa [List.getD_eq_getElem?_getD, h1] using this
/-- The parts of the answer. -/
theorem idomF_parts {K : Nat} {next : List (List Int)} {ord r : List Int} (h : idomF K next ord = some r) : ∃ T1 P1, outerP next ord 0 (List.replicate next.length (-1)) (List.replicate next.length []) = some (T1, P1) ∧
    (ord.length = 0 ∧ r = List.replicate next.length (-1) ∨ ord.length ≠ 0 ∧ ∃ Df, roundsF K T1 P1 ord.tail K ((List.replicate next.length (-1)).set 0 0) = some Df ∧ r = Df.set 0 (-1)) := by
  unfold idomF at h
  split at h
  · rename_i h0
    have e : ord = [] := List.eq_nil_of_length_eq_zero h0
    subst e
    exact ⟨_, _, rfl, Or.inl ⟨rfl, (Option.some.inj h).symm⟩⟩
  · rename_i h0
    obtain ⟨⟨T1, P1⟩, h1, h⟩ := Option.bind_eq_some_iff.mp h
    obtain ⟨Df, h2, h⟩ := Option.map_eq_some_iff.mp h
    exact ⟨T1, P1, h1, Or.inr ⟨h0, Df, h2, h.symm⟩⟩
/-- The row of rows of places ahead. -/
def PS (w0 : World) (s : Nat) (A : Option Addr) (n c : Nat) (P : List (List Int)) (W : World) : Prop := Kd.S (Kd.slice 3 (Kd.int .i64)) 27 W w0.heap.size (fun k => s ≤ k) (.slice A n c) P
/-- An element of it, and what it is behind an append to it that is stored. -/
theorem PS.elem {w0 : World} {s : Nat} {A : Option Addr} {n c : Nat} {P : List (List Int)} {W : World} (h : PS w0 s A n c P W) (i : Int) (h0 : 0 ≤ i) (h1 : i < (n : Int)) :
    ∃ (g : Nat) (A0 : Option Addr) (c0 : Nat) (oki : Nat → Prop), A = some ⟨g, 0, none⟩ ∧ s ≤ g ∧ w0.heap.size ≤ g ∧ W.cell? ⟨g, i.toNat, none⟩ = some (.slice A0 (rdL P i).length c0) ∧ (Kd.R (Kd.int .i64) 3 W w0.heap.size oki (.slice A0 (rdL P i).length c0) (rdL P i)) ∧ (∀ k, oki k → s ≤ k) ∧
      ∀ w1 v1 xs, Kd.R (Kd.int .i64) 3 w1 w0.heap.size (fun k => oki k ∨ s ≤ k ∧ W.heap.size ≤ k) v1 xs → W.grownBy w1 (Value.slice A0 (rdL P i).length c0).ownBlock → (∃ u, w1.cell? ⟨g, i.toNat, none⟩ = some u) ∧ w1.frozen? ⟨g, i.toNat, none⟩ = false ∧ PS w0 s A n c (P.set i.toNat xs) (w1.setCell ⟨g, i.toNat, none⟩ v1) ∧ w1.grownBy (w1.setCell ⟨g, i.toNat, none⟩ v1) (some g) := by
  have hl := (Kd.S_reads' h).1
  obtain ⟨g, cap, eo, gb, gl, cs, hc⟩ := Kd.S_form h (by omega)
  have eA : A = some ⟨g, 0, none⟩ := by injection eo
  subst eA
  have hg0 : s ≤ g := (Kd.S_R h).1 g rfl
  obtain ⟨oki, ce, hcl, hM, hcc, _, hoki, hH⟩ := Kd.S_elem h [] i h0 h1
  obtain ⟨ve, rfl, ge⟩ := hM
  have hv := hcc 0 _ rfl
  simp only [Nat.add_zero, show ((Kd.slice 3 (Kd.int .i64))).sz = 1 from rfl, Nat.mul_one] at hv
  obtain ⟨A0, c0, e0⟩ := Kd.R_slice ge
  subst e0
  refine ⟨g, A0, c0, oki, rfl, hg0, gb, hv, ge, fun k hk => (hoki k hk).1, fun w1 v1 xs hr hg => ?_⟩
  have hH1 := Kd.H_grown (Kd.H_widen hH) hg (fun k_ e_ => .inl (ge.1 k_ e_))
  obtain ⟨_, _, hraw, _, _, hcc2, _⟩ := Kd.H_raw hH1 h0 h1
  obtain ⟨_, hfr⟩ := Kd.H_at hH1 h0 h1
  have hx := hcc2 0 _ rfl
  have hf := hfr 0
  have HP := Kd.S_seg0 hH1 h0 h1 (seg := [v1]) (j := 0) (show 1 ≤ 1 from by decide) (x' := xs) (Kd.M_row hr) (fun _ hk => hk)
  simp only [Nat.add_zero, show ((Kd.slice 3 (Kd.int .i64))).sz = 1 from rfl, Nat.mul_one] at hx hf HP
  exact ⟨⟨_, hx⟩, hf, HP.1, HP.2⟩
theorem PS.grown {w0 : World} {s : Nat} {A : Option Addr} {n c : Nat} {P : List (List Int)} {W W2 : World} (h : PS w0 s A n c P W) {row : Option Nat} (hg : W.grownBy W2 row) (hr : ∀ k, row = some k → k < s) : PS w0 s A n c P W2 :=
  Kd.S_grown h hg fun k hk e => by have := hr k e.symm; omega
theorem PS.drewN {w0 : World} {s : Nat} {A : Option Addr} {n c : Nat} {P : List (List Int)} {W : World} (h : PS w0 s A n c P W) (m : Nat) : PS w0 s A n c P (W.drewN m) := Kd.S_drewN h m
theorem PS.drew {w0 : World} {s : Nat} {A : Option Addr} {n c : Nat} {P : List (List Int)} {W : World} (h : PS w0 s A n c P W) : PS w0 s A n c P W.drew := Kd.S_drew h
end DomA
end Go.Proofs.Ytfiffhcpgojkhaa
