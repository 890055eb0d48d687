/- calls.Order by hand, over the printed Of. No condition but that the units are not too many. -/
import Derived.Test.YtfiffhcpgojkhaaQCallsCirclex9
import Derived.Test.YtfiffhcpgojkhaaMapI
namespace Go.Proofs.Ytfiffhcpgojkhaa.QCallsCircle
open Go.RowKit Go.Proofs.Ytfiffhcpgojkhaa Go.Proofs.YtfiffhcpgojkhaaW.PrintWords Go.Proofs.YtfiffhcpgojkhaaW.PrintLast Go.Proofs.YtfiffhcpgojkhaaW.PrintMore
set_option linter.unusedVariables false
set_option linter.unusedSimpArgs false
/-- What each unit calls. -/
def rowsF (k : Nat) (l : List (S69)) : Nat → Nat → List (List Int) → Option (List (List Int))
 | 0, _, P => some P
 | r + 1, u, P => (calls_Of.f k l (u : Int)).bind fun t => rowsF k l r (u + 1) (P.set u t)
/-- How often a unit was placed. -/
def cntF (out : List Int) (x : Int) : Int := (out.count x : Int)
def pickF (out : List Int) : List (List Int) → Nat → Int
 | [], _ => -1
 | c :: C, u => if cntF out (u : Int) = 0 ∧ rdyF (cntF out) c = true then (u : Int) else pickF out C (u + 1)
def ordL (C : List (List Int)) (n : Nat) : Nat → List Int → Option (List Int × Bool)
 | 0, _ => none
 | k + 1, out => if out.length < n then (if pickF out C 0 < 0 then some ([], false) else if out.length < 17592186044416 then ordL C n k (out ++ [pickF out C 0]) else none) else some (out, true)
/-- The rows are short, and of units. -/
def rowsOk (C : List (List Int)) : Bool := C.all fun c => decide (c.length < 4611686018427387904) && c.all fun x => decide (-9223372036854775808 ≤ x) && decide (x ≤ 9223372036854775807)
def calls_Order.f (k : Nat) (l0 : List (S69)) : Option (List Int × Bool) := if l0.length ≤ 11728124029600 then (rowsF k l0 l0.length 0 (List.replicate l0.length [])).bind fun C => if rowsOk C = true then ordL C l0.length k [] else none else none
theorem rowsF_mono (k : Nat) (l : List (S69)) : ∀ r u P C, rowsF k l r u P = some C → rowsF (k + 1) l r u P = some C := by
  intro r
  induction r with
  | zero => intro u P C h; exact h
  | succ r ih =>
    intro u P C h
    simp only [rowsF] at h ⊢
    obtain ⟨t, ht, h⟩ := Option.bind_eq_some_iff.mp h
    rw [calls_Of.mono _ _ k _ ht]
    exact ih _ _ _ h
theorem ordL_mono (C : List (List Int)) (n : Nat) : ∀ k out q, ordL C n k out = some q → ordL C n (k + 1) out = some q := by
  intro k
  induction k with
  | zero => intro out q h; simp [ordL] at h
  | succ k ih =>
    intro out q h
    rw [ordL] at h
    rw [ordL]
    split at h
    · rename_i h0
      rw [if_pos h0]
      split at h
      · rename_i h1; rw [if_pos h1]; exact h
      · rename_i h1
        rw [if_neg h1]
        split at h
        · rename_i h2; rw [if_pos h2]; exact ih _ _ h
        · cases h
    · rename_i h0; rw [if_neg h0]; exact h
theorem calls_Order.mono : ∀ a0 k, LeO (calls_Order.f k a0) (calls_Order.f (k + 1) a0) := by
  intro a0 k r h
  unfold calls_Order.f at h ⊢
  split at h
  rotate_left
  · cases h
  rename_i hc
  rw [if_pos hc]
  obtain ⟨C, hC, h⟩ := Option.bind_eq_some_iff.mp h
  rw [rowsF_mono _ _ _ _ _ _ hC]
  simp only [Option.bind_some]
  split at h
  · rename_i h1; rw [if_pos h1]; exact ordL_mono _ _ _ _ _ h
  · cases h
theorem pickF_le (out : List Int) : ∀ (C : List (List Int)) (u : Nat), pickF out C u < 0 ∨ ∃ m : Nat, pickF out C u = (m : Int) ∧ m < u + C.length ∧ cntF out (m : Int) = 0 := by
  intro C
  induction C with
  | nil => intro u; exact .inl (by simp [pickF])
  | cons c C ih =>
    intro u
    simp only [pickF]
    split
    · rename_i h; exact .inr ⟨u, rfl, by simp, h.1⟩
    · rcases ih (u + 1) with h | ⟨m, h1, h2, h3⟩
      · exact .inl h
      · exact .inr ⟨m, h1, by simp only [List.length_cons]; omega, h3⟩
def rdL (P : List (List Int)) (i : Int) : List Int := P.getD i.toNat []
theorem infoI : (Try.prog.info? 3).map (fun i => (i.zero, i.size, i.bytes)) = some (some (.int .i64 0), 1, 8) := by kernel_rfl
theorem infoS : (Try.prog.info? 27).map (fun i => (i.zero, i.size, i.bytes)) = some (some (.slice none 0 0), 1, 24) := by kernel_rfl
theorem drop_rdL (l : List (List Int)) (m : Nat) (h : m < l.length) : l.drop m = rdL l (m : Int) :: l.drop (m + 1) := by
  rw [List.drop_eq_getElem_cons h]
  simp [rdL, h]
theorem rdL_mem (l : List (List Int)) (m : Nat) (h : m < l.length) : rdL l (m : Int) ∈ l := by simp [rdL, h]
/-- The row of rows that is made. -/
def TO (w0 : World) (ok : Nat → Prop) (A : Option Addr) (n c : Nat) (P : List (List Int)) (W : World) : Prop := Kd.S (Kd.slice 3 (Kd.int .i64)) 27 W w0.heap.size ok (.slice A n c) P
theorem TO.len {w0 : World} {ok : Nat → Prop} {A : Option Addr} {n c : Nat} {P : List (List Int)} {W : World} (h : TO w0 ok A n c P W) : n = P.length := (Kd.S_reads' h).1
theorem TO.addr {w0 : World} {ok : Nat → Prop} {A : Option Addr} {n c : Nat} {P : List (List Int)} {W : World} (h : TO w0 ok A n c P W) (hn : 0 < n) : ∃ g, A = some ⟨g, 0, none⟩ := by
  have hl := (Kd.S_reads' h).1
  obtain ⟨g', cap, eo, gb, gl, cs, hc⟩ := Kd.S_form h (by omega)
  exact ⟨g', by injection eo⟩
theorem TO.put {w0 : World} {ok : Nat → Prop} {g n c : Nat} {P : List (List Int)} {W w2 : World} (h : TO w0 ok (some ⟨g, 0, none⟩) n c P W) (hok : ∀ k, W.heap.size ≤ k → ok k) (hb : Below W.heap.size W w2) (i : Nat) (h1 : i < n) {v2 : Value} {t : List Int} (hr : Kd.R (Kd.int .i64) 3 w2 W.heap.size (fun _ => True) v2 t) (hs : w0.heap.size ≤ W.heap.size) :
    (∃ u, w2.cell? ⟨g, i, none⟩ = some u) ∧ w2.frozen? ⟨g, i, none⟩ = false ∧ w0.heap.size ≤ g ∧ TO w0 ok (some ⟨g, 0, none⟩) n c (P.set i t) (w2.setCell ⟨g, i, none⟩ v2) := by
  have hl := (Kd.S_reads' h).1
  obtain ⟨g', cap, eo, gb, gl, cs, hc⟩ := Kd.S_form h (by omega)
  obtain rfl : g = g' := by injection eo with e; injection e with e; injection e
  obtain ⟨oki, ce, hcl, hM, hcc, _, hoki, hH⟩ := Kd.S_elem h [] (i : Int) (by omega) (by omega)
  obtain ⟨ve, rfl, ge⟩ := hM
  have hH1 := Kd.H_grown (Kd.H_widen hH) (grown_of_below hb ve.ownBlock) (fun k_ e_ => .inl (ge.1 k_ e_))
  have h0 : (0 : Int) ≤ (i : Int) := by omega
  have h1' : (i : Int) < (n : Int) := by omega
  obtain ⟨_, _, hraw, _, _, hcc2, _⟩ := Kd.H_raw hH1 h0 h1'
  obtain ⟨_, hfr⟩ := Kd.H_at hH1 h0 h1'
  have hx := hcc2 0 _ rfl
  have hf := hfr 0
  have hr2 : Kd.R (Kd.int .i64) 3 w2 w0.heap.size (fun k => oki k ∨ ok k ∧ W.heap.size ≤ k) v2 t := Kd.R_lower (Kd.R_mono (Kd.R_bound hr) (fun k hk => .inr ⟨hok k hk.2.1, hk.2.1⟩)) hs
  have HP := Kd.S_seg0 hH1 h0 h1' (seg := [v2]) (j := 0) (show 1 ≤ 1 from by decide) (x' := t) (Kd.M_row hr2) (fun _ hk => hk)
  simp only [Nat.add_zero, show ((Kd.slice 3 (Kd.int .i64))).sz = 1 from rfl, Nat.mul_one, Int.toNat_natCast] at hx hf HP
  exact ⟨⟨_, hx⟩, hf, gb, HP.1⟩
/-- An element, to be read. -/
theorem TO.get {w0 : World} {ok : Nat → Prop} {g n c : Nat} {P : List (List Int)} {W : World} (h : TO w0 ok (some ⟨g, 0, none⟩) n c P W) (i : Nat) (h1 : i < n) :
    ∃ (A0 : Option Addr) (c0 : Nat), W.cell? ⟨g, i, none⟩ = some (.slice A0 (rdL P (i : Int)).length c0) ∧ (Kd.R (Kd.int .i64) 3 W w0.heap.size ok (.slice A0 (rdL P (i : Int)).length c0) (rdL P (i : Int))) := by
  have hl := (Kd.S_reads' h).1
  obtain ⟨g', cap, eo, gb, gl, cs, hc⟩ := Kd.S_form h (by omega)
  obtain rfl : g = g' := by injection eo with e; injection e with e; injection e
  obtain ⟨oki, ce, hcl, hM, hcc, _, hoki, hH⟩ := Kd.S_elem h [] (i : Int) (by omega) (by omega)
  obtain ⟨ve, rfl, ge⟩ := hM
  have hv := hcc 0 _ rfl
  simp only [Nat.add_zero, show ((Kd.slice 3 (Kd.int .i64))).sz = 1 from rfl, Nat.mul_one, Int.toNat_natCast] at hv
  obtain ⟨A0, c0, e0⟩ := Kd.R_slice ge
  subst e0
  exact ⟨A0, c0, hv, Kd.R_mono ge (fun k hk => (hoki k hk).1)⟩
theorem cnt_put (out : List Int) (x : Int) (h : cntF out x = 0) : (fun y => if y = x then 1 else cntF out y) = cntF (out ++ [x]) := by
  funext y
  unfold cntF at h ⊢
  rw [List.count_append]
  by_cases e : y = x
  · subst e; rw [if_pos rfl]; simp; omega
  · rw [if_neg e]; simp [List.count_cons, Ne.symm e]
theorem w64_1 : w64 1 := by unfold w64; decide
theorem rowsOk_at {C : List (List Int)} (h : rowsOk C = true) {c : List Int} (hc : c ∈ C) : c.length < 4611686018427387904 ∧ ∀ x ∈ c, w64 x := by
  have h1 := List.all_eq_true.mp h c hc
  rw [Bool.and_eq_true, decide_eq_true_eq] at h1
  refine ⟨h1.1, fun x hx => ?_⟩
  have h2 := List.all_eq_true.mp h1.2 x hx
  rw [Bool.and_eq_true, decide_eq_true_eq, decide_eq_true_eq] at h2
  simp [w64, Lit.wf, IntKind.min, IntKind.max, IntKind.signed, IntKind.bits]
  omega
theorem w64_nat {m : Nat} (h : m < 4611686018427387904) : w64 (m : Int) := by
  simp [w64, Lit.wf, IntKind.min, IntKind.max, IntKind.signed, IntKind.bits]
  omega
set_option maxHeartbeats 16000000 in
set_option maxRecDepth 100000 in
theorem calls_Order.calls (k : Nat) (A0 : Option Addr) (c0 : Nat) (l0 : List (S69)) (r1 : List Int) (r2 : Bool) (w : World) (hr0 : Kd.C k69 w A0 l0.length l0) (hc0 : l0.length ≤ c0) (h : calls_Order.f k l0 = some (r1, r2)) :
    Calls Try.prog 35 #[.slice A0 l0.length c0] w fun e w' => ∃ v0_ : Value, e = .returned (.tuple #[v0_, .bool r2]) ∧ Kd.R (Kd.int .i64) 3 w' w.heap.size (fun _ => True) v0_ r1 ∧ Below w.heap.size w w' := by
  unfold calls_Order.f at h
  split at h
  rotate_left
  · cases h
  rename_i hg1
  obtain ⟨C, hp, h⟩ := Option.bind_eq_some_iff.mp h
  split at h
  rotate_left
  · cases h
  rename_i hok
  have HG1 := Aside0.mk hg1
  have HP := Aside0.mk hp
  have HOK := Aside0.mk hok
  have HR0 := Aside0.mk hr0
  have HC0 := Aside0.mk hc0
  have HH := Aside0.mk h
  have HB := Aside0.mk (Below.refl w.heap.size w)
  have z2 : (0 ≤ (l0.length : Int)) = True := eq_true (by omega)
  clear hg1 hok hr0 hc0 h hp
  have hmm := @run_makeMap Try.prog
  go_enter Try.func35, Try.ntmps35
  go_wp2_with (first
    | ((with_reducible refine gate_dst (N := 13) rfl ?_); (try (refine gate_guard (by rfl) ?_; dsimp only)); refine Kd.S_make (Kd.slice 3 (Kd.int .i64)) (w0 := w) w.heap.size 27 rfl (N := 13) rfl 22 _ _ rfl (l0.length : Int) rfl rfl Try.underlying22 (.slice none 0 0) 24 infoS rfl (by decide) (by omega) [] (ok := fun _ => True) (okp := fun _ => True) ⟨_, rfl, Kd.R_nil _ _ _ _ _⟩ (fun _ hk => hk) trivial (by omega) (by have := HG1.out; omega) (Below.refl _ _) (Nat.le_refl _) ?_; intro v1 w1 ho1 hb1 hg_ hnew_; rw [Int.toNat_natCast] at ho1; obtain ⟨A3, c3, e3⟩ := Kd.S_slice ho1; rw [List.length_replicate] at e3; subst e3; have T1 := Aside0.mk ho1; have B1 := Aside0.mk hb1; clear ho1 hb1 hg_ hnew_))
  have T2 : Aside0 (TO w (fun _ => True) A3 l0.length c3 (List.replicate l0.length []) w1) := ⟨T1.out⟩
  clear T1
  go_loopw [16] (fun vi wr => ∃ (m : Nat) (P : List (List Int)), vi = .int .i64 (m : Int) ∧ m ≤ l0.length ∧ Aside0 (rowsF k l0 (l0.length - m) m P = some C) ∧ Aside0 (TO w (fun _ => True) A3 l0.length c3 P wr) ∧ Aside0 (Below w.heap.size w wr)) (fun vi _ => l0.length - (intOf vi).toNat)
  case atStart => exact ⟨0, _, rfl, Nat.zero_le _, ⟨by rw [Nat.sub_zero]; exact HP.out⟩, T2, B1⟩
  case round =>
    obtain ⟨m, P, rfl, hm, hO, hT, hB⟩ := hrel
    clear HP T2 B1 z2
    by_cases hlt : m < l0.length
    · obtain ⟨g, eg⟩ := TO.addr hT.out (by omega)
      subst eg
      have hq := hO.out
      rw [show l0.length - m = (l0.length - (m + 1)) + 1 by omega] at hq
      simp only [rowsF] at hq
      obtain ⟨t, ht, hq⟩ := Option.bind_eq_some_iff.mp hq
      have HT := Aside0.mk ht
      have HQ2 := Aside0.mk hq
      have y0 : decide ((m : Int) < (l0.length : Int)) = true := decide_eq_true (by omega)
      have y1 : (m < l0.length) = True := eq_true hlt
      clear ht hq hO
      go_wp2_with (first
        | ((with_reducible refine gate_callee (f := 38) rfl ?_); refine goesL_ (some 23) rfl rfl Try.func38 (by kernel_rfl) rfl #[.slice A0 l0.length c0, .int .i64 (m : Int)] rfl (by (try simp only [List.map_toArray, List.map_cons, List.map_nil]); first | done | rfl) ?_; (with_reducible refine (calls_Of.calls k A0 c0 l0 (m : Int) t wr (Kd.C_below HR0.out hB.out) HC0.out HT.out).mono ?_); rintro e w2 ⟨v2, rfl, ho, hb⟩; refine ⟨_, rfl, ?_⟩; obtain ⟨⟨u10, f10⟩, f11, hw3, hp10⟩ := TO.put hT.out (fun _ _ => trivial) hb m hlt ho (below_size hB.out); obtain ⟨At, ct, et⟩ := Kd.R_slice ho; subst et; have T11 := Aside0.mk hp10; have B11 : Aside0 (Below w.heap.size w (w2.setCell ⟨g, m, none⟩ (.slice At t.length ct))) := ⟨below_set (below_step hB.out hb) hw3⟩; clear ho hb hp10))
      go_roundw
      case rel => exact ⟨m + 1, _, by rw [PdC.wnext m (by have := HG1.out; omega)], hlt, HQ2, T11, B11⟩
      case measure => rw [PdC.wnext m (by have := HG1.out; omega)]; simp only [intOf, Int.toNat_natCast]; omega
    · obtain rfl : m = l0.length := by omega
      have hq := hO.out
      rw [Nat.sub_self] at hq
      simp only [rowsF, Option.some.injEq] at hq
      subst hq
      have y0 : decide ((l0.length : Int) < (l0.length : Int)) = false := decide_eq_false (by omega)
      clear hlt hm hO
      obtain ⟨s1, hs1⟩ : ∃ s1, wr.heap.size = s1 := ⟨_, rfl⟩
      have M0 : Aside0 (MapI (wr.alloc (.map #[] 0)) s1 0 (cntF [])) := ⟨by rw [← hs1, show cntF [] = fun _ => 0 from by funext x; simp [cntF]]; exact MapI.made wr⟩
      have TT : Aside0 (TO w (fun k_ => k_ < s1) A3 l0.length c3 P (wr.alloc (.map #[] 0))) := ⟨Kd.S_alloc (Kd.S_mono (Kd.S_bound hT.out) (fun k hk => by have h_ := hk.2.2.1; rw [hs1] at h_; exact h_)) _⟩
      have BB : Aside0 (Below w.heap.size w (wr.alloc (.map #[] 0))) := ⟨below_alloc hB.out _⟩
      have SS : Aside0 (s1 < (wr.alloc (.map #[] 0)).heap.size) := ⟨MapI.lt M0.out⟩
      have WW : Aside0 (w.heap.size ≤ s1) := ⟨by rw [← hs1]; exact below_size hB.out⟩
      have HCl : Aside0 (l0.length = P.length) := ⟨TO.len hT.out⟩
      clear hT hB
      go_wp2
      clear hmm
      go_loopg [7] k (fun kq v7 w4 => ∃ (out : List Int), Aside0 (ordL P l0.length kq out = some (r1, r2)) ∧ Aside0 (TO w (fun k_ => k_ < s1) A3 l0.length c3 P w4) ∧ Aside0 (MapI w4 s1 out.length (cntF out)) ∧ Aside0 (Kd.R (Kd.int .i64) 3 w4 w.heap.size (fun k_ => s1 < k_) v7 out) ∧ Aside0 (Below w.heap.size w w4) ∧ Aside0 (s1 < w4.heap.size))
      case atStart => exact ⟨[], HH, TT, M0, ⟨Kd.R_nil _ _ _ _ _⟩, BB, SS⟩
      case round =>
        obtain ⟨out, hO, hT, hM, hR, hB, hS⟩ := hrel
        clear HH TT M0 BB SS hs1
        cases gk with
        | zero => exact absurd hO.out (by simp [ordL])
        | succ k1 =>
        have H := hO.out
        rw [ordL] at H
        obtain ⟨Ao, co, eo⟩ := Kd.R_slice hR.out
        subst eo
        by_cases hlt : out.length < l0.length
        · rw [if_pos hlt] at H
          have y0 : decide ((out.length : Int) < (l0.length : Int)) = true := decide_eq_true (by omega)
          have HP := Aside0.mk H
          have HLT := Aside0.mk hlt
          have K0 : Aside0 (pickF out P 0 = pickF out (P.drop 0) 0) := ⟨by rw [List.drop_zero]⟩
          clear H hO
          go_wp2
          go_loopw [8, 34] (fun v8 v34 w5 => ∃ (m : Nat), v8 = .int .i64 (-1) ∧ v34 = .int .i64 (m : Int) ∧ m ≤ l0.length ∧ Aside0 (pickF out P 0 = pickF out (P.drop m) m) ∧ w5 = wr) (fun _ vi _ => l0.length - (intOf vi).toNat)
          case atStart => exact ⟨0, rfl, rfl, Nat.zero_le _, K0, rfl⟩
          case round =>
            obtain ⟨m, rfl, rfl, hm, hK, rfl⟩ := hrel
            clear K0 y0 hlt
            by_cases hlt : m < l0.length
            · obtain ⟨g, eg⟩ := TO.addr hT.out (by omega)
              subst eg
              have hPm : m < P.length := by have := HCl.out; omega
              obtain ⟨A5, c5, hx5, hr5⟩ := TO.get hT.out m hlt
              have hmem := rdL_mem P m hPm
              have hq := hK.out
              rw [drop_rdL P m hPm] at hq
              simp only [pickF] at hq
              generalize rdL P (m : Int) = cs at hx5 hr5 hmem hq
              have hcs := rowsOk_at HOK.out hmem
              have hlk := MapI.look hM.out (w64_nat (m := m) (by have := HG1.out; omega))
              have y1 : decide ((m : Int) < (l0.length : Int)) = true := decide_eq_true (by omega)
              have y2 : (m < l0.length) = True := eq_true hlt
              have HR5 := Aside0.mk hr5
              have HCS := Aside0.mk hcs
              clear hr5 hcs hmem hK
              by_cases hz : cntF out (m : Int) = 0
              · rw [hz] at hlk
                by_cases hrd : rdyF (cntF out) cs = true
                · rw [if_pos ⟨hz, hrd⟩] at hq
                  have HO2 := HP.out
                  rw [hq, if_neg (by omega)] at HO2
                  split at HO2
                  rotate_left
                  · cases HO2
                  rename_i hbig
                  obtain ⟨w6, hrun, hM6, hg6⟩ := MapI.put hM.out (show out.length < maxLen by have := HG1.out; have := HLT.out; unfold maxLen; omega) (w64_nat (m := m) (by have := HG1.out; omega)) w64_1
                  rw [cnt_put out (m : Int) hz] at hM6
                  have HRD := Aside0.mk hrd
                  have HN := Aside0.mk HO2
                  have HBIG := Aside0.mk hbig
                  have HM6 := Aside0.mk hM6
                  have S6 : Aside0 (s1 < w6.heap.size) := ⟨MapI.lt hM6⟩
                  have B6 : Aside0 (Below w.heap.size w w6) := ⟨hB.out.grown hg6 (below_size hB.out) (fun k e => by injection e with e; have := WW.out; omega)⟩
                  have R6 : Aside0 (Kd.R (Kd.int .i64) 3 w6 w.heap.size (fun k_ => s1 < k_) (.slice Ao out.length co) out) := ⟨Kd.R_grown hR.out hg6 (fun k_ hk e => by injection e with e; have h_ : s1 < k_ := hk; omega)⟩
                  have T6 : Aside0 (TO w (fun k_ => k_ < s1) (some ⟨g, 0, none⟩) l0.length c3 P w6) := ⟨Kd.S_grown hT.out hg6 (fun k_ hk e => by injection e with e; have h_ : k_ < s1 := hk; omega)⟩
                  have y3 : decide ((m : Int) < 0) = false := decide_eq_false (by omega)
                  clear hq hz hrd hM6 hg6 HO2 hbig
                  go_wp2_with (first
                    | (go_at_call 67; (with_reducible refine (calls_ready.calls A5 c5 cs s1 out.length (cntF out) wr (Kd.R_reads' HR5.out).2.2 (Kd.R_reads' HR5.out).2.1 hM.out HCS.out.1 HCS.out.2).mono ?_); rintro e w' ⟨rfl, rfl⟩; rw [HRD.out])
                    | ((with_reducible refine gate_builtin (b := .append) (xs := #[.tmp 56, .tmp 58]) rfl ?_); (try (refine gate_guard (by rfl) ?_; dsimp only)); at_builtin; refine Kd.R_append (Kd.int .i64) (w0 := w) w.heap.size rfl (.tmp 56) (.tmp 58) 27 3 (.int .i64 0) 8 rfl Try.underlying27 infoI rfl (by decide) (by omega) (.slice Ao out.length co) out (m : Int) [.int .i64 (m : Int)] (fun k_ => s1 < k_) (fun _ => False) rfl rfl ?aP (fun _ hk => hk.elim) ?aF ?aO ?aB ?aS ?aL ?_; (case aP => exact rfl); (case aB => exact B6.out); (case aF => exact (fun k_ hk => Nat.lt_of_lt_of_le S6.out hk)); (case aO => exact R6.out); (case aS => exact below_size B6.out); (case aL => have := HBIG.out; omega); intro v10 w10 ho hb hg hat; have T10 : Aside0 (TO w (fun k_ => k_ < s1) (some ⟨g, 0, none⟩) l0.length c3 P w10) := ⟨Kd.S_grown T6.out hg (fun k_ hk e => by have h1 : s1 < k_ := R6.out.1 k_ e.symm; have h2 : k_ < s1 := hk; omega)⟩; have M10 : Aside0 (MapI w10 s1 (out.length + 1) (cntF (out ++ [(m : Int)]))) := ⟨MapI.kept HM6.out hg (fun e => Nat.lt_irrefl _ (R6.out.1 s1 e.symm))⟩; have R10 := Aside0.mk ho; have B10 := Aside0.mk hb; clear ho hb hg hat))
                  go_roundg k1
                  case measure => omega
                  case rel => exact ⟨out ++ [(m : Int)], HN, T10, ⟨by rw [List.length_append]; exact M10.out⟩, R10, B10, ⟨MapI.lt M10.out⟩⟩
                · rw [if_neg (fun h => hrd h.2)] at hq
                  have HQ := Aside0.mk hq
                  have HRD : Aside0 (rdyF (cntF out) cs = false) := ⟨by simpa using hrd⟩
                  clear hq hz hrd
                  go_wp2_with (first
                    | (go_at_call 67; (with_reducible refine (calls_ready.calls A5 c5 cs s1 out.length (cntF out) wr (Kd.R_reads' HR5.out).2.2 (Kd.R_reads' HR5.out).2.1 hM.out HCS.out.1 HCS.out.2).mono ?_); rintro e w' ⟨rfl, rfl⟩; rw [HRD.out]))
                  go_roundw
                  case rel => exact ⟨m + 1, rfl, by rw [PdC.wnext m (by have := HG1.out; omega)], hlt, HQ, by trivial⟩
                  case measure => rw [PdC.wnext m (by have := HG1.out; omega)]; simp only [intOf, Int.toNat_natCast]; omega
              · rw [if_neg (fun h => hz h.1)] at hq
                have HQ := Aside0.mk hq
                have y4 : (cntF out (m : Int) == 0) = false := beq_eq_false_iff_ne.mpr hz
                clear hq
                go_wp2
                go_roundw
                case rel => exact ⟨m + 1, rfl, by rw [PdC.wnext m (by have := HG1.out; omega)], hlt, HQ, by trivial⟩
                case measure => rw [PdC.wnext m (by have := HG1.out; omega)]; simp only [intOf, Int.toNat_natCast]; omega
            · obtain rfl : m = l0.length := by omega
              have hq := hK.out
              have hPl := HCl.out
              rw [List.drop_eq_nil_of_le (by omega)] at hq
              simp only [pickF] at hq
              have HO2 := HP.out
              rw [hq, if_pos (by omega)] at HO2
              injection HO2 with HO2
              injection HO2 with e1 e2
              subst e1
              subst e2
              have y1 : decide ((l0.length : Int) < (l0.length : Int)) = false := decide_eq_false (by omega)
              clear hlt hm hK hq hPl
              go_wp2
              go_ret2
              exact ⟨_, rfl, Kd.R_nil _ _ _ _ _, hB.out⟩
        · rw [if_neg hlt] at H
          injection H with H
          injection H with e1 e2
          subst e1
          subst e2
          have y0 : decide ((out.length : Int) < (l0.length : Int)) = false := decide_eq_false (by omega)
          clear hO
          go_wp2
          go_ret2
          exact ⟨_, rfl, Kd.R_mono hR.out (fun _ _ => trivial), hB.out⟩
end Go.Proofs.Ytfiffhcpgojkhaa.QCallsCircle
