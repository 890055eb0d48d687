/- ladderbackref34.Parts by hand, over the printed Interval, from and Reach. No condition. -/
import Derived.Test.YtfiffhcpgojkhaaQInterPartsx7
import Derived.Test.YtfiffhcpgojkhaaQInterPartsx6
import Derived.Test.YtfiffhcpgojkhaaInterD
namespace Go.Proofs.Ytfiffhcpgojkhaa.QInterParts
open Go.RowKit Go.Proofs.Ytfiffhcpgojkhaa Go.Proofs.YtfiffhcpgojkhaaW.PrintWords Go.Proofs.YtfiffhcpgojkhaaW.PrintLast Go.Proofs.YtfiffhcpgojkhaaW.PrintMore InterE
set_option linter.unusedVariables false
set_option linter.unusedSimpArgs false
def markF : List Int → List Bool → Option (List Bool)
 | [], tk => some tk
 | v :: l, tk => if 0 ≤ v ∧ v < (tk.length : Int) then markF l (tk.set v.toNat true) else none
def someF (tk : List Bool) : List Int → Bool → Option Bool
 | [], s => some s
 | v :: l, s => if s = true then someF tk l true else if 0 ≤ v ∧ v < (tk.length : Int) then someF tk l (rdOf false tk v) else none
def headP (k : Nat) (next : List (List Int)) (rc tk : List Bool) : Nat → Int → Option Int
 | 0, h => some h
 | i + 1, h => (ladderbackref34_from.f k next (i : Int)).bind fun p => if p.length < 4611686018427387904 then (someF tk p false).bind fun s => headP k next rc tk i (if rdOf false rc (i : Int) = true ∧ rdOf false tk (i : Int) = false ∧ s = true then (i : Int) else h) else none
def partsP (k : Nat) (next : List (List Int)) : Nat → List Bool → List (List Int) → Int → Option (List (List Int))
 | 0, _, out, _ => some out
 | r + 1, tk, out, h => if h ≥ 0 then (ladderbackref34_Interval.f k next h tk).bind fun l => if out.length < 5864062014805 ∧ l.length < 4611686018427387904 then (markF l tk).bind fun tk2 => (ladderbackref31_Reach.f k next 0 (-1)).bind fun rc => if rc.length = next.length then (headP k next rc tk2 next.length (-1)).bind fun h2 => partsP k next r tk2 (out ++ [l]) h2 else none else none else some out
def ladderbackref34_Parts.f (k : Nat) (l0 : List (List Int)) : Option (List (List Int)) := if l0.length ≤ 35184372088832 then partsP k l0 l0.length (List.replicate l0.length false) [] 0 else none
theorem headP_mono (k : Nat) (next : List (List Int)) (rc tk : List Bool) : ∀ i h r, headP k next rc tk i h = some r → headP (k + 1) next rc tk i h = some r := by
  intro i
  induction i with
  | zero => intro h r e; exact e
  | succ i ih =>
    intro h r e
    simp only [headP] at e ⊢
    obtain ⟨p, hp, e⟩ := Option.bind_eq_some_iff.mp e
    rw [ladderbackref34_from.mono _ _ k _ hp]
    simp only [Option.bind_some]
    split at e
    · rename_i hc
      rw [if_pos hc]
      obtain ⟨s, hs, e⟩ := Option.bind_eq_some_iff.mp e
      rw [hs]
      simp only [Option.bind_some]
      exact ih _ _ e
    · cases e
theorem partsP_mono (k : Nat) (next : List (List Int)) : ∀ r tk out h q, partsP k next r tk out h = some q → partsP (k + 1) next r tk out h = some q := by
  intro r
  induction r with
  | zero => intro tk out h q e; exact e
  | succ r ih =>
    intro tk out h q e
    simp only [partsP] at e ⊢
    split at e
    rotate_left
    · rename_i hc; rw [if_neg hc]; exact e
    rename_i hc
    rw [if_pos hc]
    obtain ⟨l, hl, e⟩ := Option.bind_eq_some_iff.mp e
    rw [ladderbackref34_Interval.mono _ _ _ k _ hl]
    simp only [Option.bind_some]
    split at e
    rotate_left
    · cases e
    rename_i hc2
    rw [if_pos hc2]
    obtain ⟨tk2, ht, e⟩ := Option.bind_eq_some_iff.mp e
    rw [ht]
    simp only [Option.bind_some]
    obtain ⟨rc, hr, e⟩ := Option.bind_eq_some_iff.mp e
    rw [ladderbackref31_Reach.mono _ _ _ k _ hr]
    simp only [Option.bind_some]
    split at e
    rotate_left
    · cases e
    rename_i hc3
    rw [if_pos hc3]
    obtain ⟨h2, hh, e⟩ := Option.bind_eq_some_iff.mp e
    rw [headP_mono _ _ _ _ _ _ _ hh]
    simp only [Option.bind_some]
    exact ih _ _ _ _ e
theorem ladderbackref34_Parts.mono : ∀ a0 k, LeO (ladderbackref34_Parts.f k a0) (ladderbackref34_Parts.f (k + 1) a0) := by
  intro a0 k r h
  unfold ladderbackref34_Parts.f at h ⊢
  split at h
  rotate_left
  · cases h
  rename_i hc
  rw [if_pos hc]
  exact partsP_mono _ _ _ _ _ _ _ h
theorem markF_len : ∀ l tk tk2, markF l tk = some tk2 → tk2.length = tk.length := by
  intro l
  induction l with
  | nil => intro tk tk2 h; injection h with h; rw [h]
  | cons v l ih =>
    intro tk tk2 h
    simp only [markF] at h
    split at h
    · rw [ih _ _ h, List.length_set]
    · cases h
theorem dropB (l : List Int) (j : Nat) (h : j < l.length) : l.drop j = rd l (j : Int) :: l.drop (j + 1) := PdC.drop_rd l j h
theorem infoB : (Try.prog.info? 4).map (fun i => (i.zero, i.size, i.bytes)) = some (some (.bool false), 1, 1) := by kernel_rfl
theorem _root_.Go.Proofs.Ytfiffhcpgojkhaa.DomA.ownLtB {w : World} {base : Nat} {ok : Nat → Prop} {v : Value} {xs : List Bool} (h : Kd.R Kd.bool 4 w base ok v xs) (k : Nat) (hk : v.ownBlock = some k) : k < w.heap.size := by
  obtain ⟨cs, hc⟩ := Kd.R_typed h k hk
  exact blk_lt hc
theorem _root_.Go.Proofs.Ytfiffhcpgojkhaa.DomA.ownLtS {w : World} {base : Nat} {ok : Nat → Prop} {v : Value} {xs : List (List Int)} (h : Kd.S (Kd.slice 3 (Kd.int .i64)) 27 w base ok v xs) (k : Nat) (hk : v.ownBlock = some k) : k < w.heap.size := by
  obtain ⟨cs, hc⟩ := Kd.S_typed h k hk
  exact blk_lt hc
/-- The world while parts are found: what is taken, and the parts so far. -/
structure PW (w : World) (n : Nat) (At : Option Addr) (ct : Nat) (tk : List Bool) (vo : Value) (out : List (List Int)) (W : World) : Prop where
  below : Below w.heap.size w W
  rt : Kd.R Kd.bool 4 W w.heap.size (fun _ => True) (.slice At n ct) tk
  so : Kd.S (Kd.slice 3 (Kd.int .i64)) 27 W w.heap.size (fun k => some k ≠ (Value.slice At n ct).ownBlock) vo out
theorem PW.more {w : World} {n : Nat} {At : Option Addr} {ct : Nat} {tk : List Bool} {vo : Value} {out : List (List Int)} {W W2 : World} (h : PW w n At ct tk vo out W) (hb : Below W.heap.size W W2) : PW w n At ct tk vo out W2 :=
  ⟨below_step h.below hb, Kd.R_below h.rt hb, Kd.S_below h.so hb⟩
theorem PW.put {w : World} {n : Nat} {At : Option Addr} {ct : Nat} {tk : List Bool} {vo : Value} {out : List (List Int)} {W : World} (h : PW w n At ct tk vo out W) (i : Nat) (hi : i < n) :
    ∃ g, At = some ⟨g, 0, none⟩ ∧ W.cell? ⟨g, i, none⟩ = some (.bool (rdOf false tk (i : Int))) ∧ W.frozen? ⟨g, i, none⟩ = false ∧ PW w n At ct (tk.set i true) vo out (W.setCell ⟨g, i, none⟩ (.bool true)) ∧ W.grownBy (W.setCell ⟨g, i, none⟩ (.bool true)) (some g) := by
  have hl := (Kd.R_reads' h.rt).1
  obtain ⟨g, cap, eo, gb, gl, cs, hc⟩ := Kd.R_form h.rt (by omega)
  have eA : At = some ⟨g, 0, none⟩ := by injection eo
  subst eA
  obtain ⟨c1, c2⟩ := Kd.R_celln false h.rt (i : Int) (by omega) (by omega)
  obtain ⟨hp, hg⟩ := Kd.R_putg h.rt (i : Int) true
  rw [Int.toNat_natCast] at c1 c2 hp hg
  exact ⟨g, rfl, c1, c2, ⟨below_set h.below gb, hp, Kd.S_grown h.so hg (fun k hk e => hk (e.trans rfl))⟩, hg⟩
set_option maxHeartbeats 16000000 in
set_option maxRecDepth 100000 in
theorem ladderbackref34_Parts.calls (k : Nat) (A0 : Option Addr) (c0 : Nat) (l0 : List (List Int)) (r : List (List Int)) (w : World) (hr0 : Kd.C (Kd.slice 3 (Kd.int .i64)) w A0 l0.length l0) (hc0 : l0.length ≤ c0) (h : ladderbackref34_Parts.f k l0 = some r) :
    Calls Try.prog 45 #[.slice A0 l0.length c0] w fun e w' => ∃ v0_ : Value, e = .returned v0_ ∧ Kd.S (Kd.slice 3 (Kd.int .i64)) 27 w' w.heap.size (fun _ => True) v0_ r ∧ Below w.heap.size w w' := by
  unfold ladderbackref34_Parts.f at h
  split at h
  rotate_left
  · cases h
  rename_i hg
  obtain ⟨n, hn⟩ : ∃ n, n = l0.length := ⟨_, rfl⟩
  have HG := Aside0.mk hg
  have HR0 := Aside0.mk hr0
  have HC0 := Aside0.mk hc0
  have HH := Aside0.mk h
  have z2 : (0 ≤ (l0.length : Int)) = True := eq_true (by omega)
  clear hg hr0 hc0 h
  go_enter Try.func45, Try.ntmps45
  go_wp2_with (first | ((with_reducible refine gate_dst (N := 16) rfl ?_); (try (refine gate_guard (by rfl) ?_; dsimp only)); refine Kd.R_make Kd.bool (w0 := w) w.heap.size 4 rfl (N := 16) rfl 25 _ _ rfl (l0.length : Int) rfl rfl Try.underlying25 (.bool false) 1 infoB rfl (by decide) (by omega) false (ok := fun _ => True) (okp := fun _ => True) rfl (fun _ hk => hk) trivial (by omega) (by have := HG.out; omega) (Below.refl _ _) (Nat.le_refl _) ?_; intro v1 w1 ho1 hb1 hg_ hnew_; rw [Int.toNat_natCast] at ho1; obtain ⟨At, ct, et⟩ := Kd.R_slice ho1; rw [List.length_replicate] at et; subst et; have P1 : Aside0 (PW w l0.length At ct (List.replicate l0.length false) (.slice none 0 0) [] w1) := ⟨⟨hb1, ho1, Kd.S_nil _ _ _ _ _⟩⟩; clear ho1 hb1 hg_ hnew_))
  have HPR : Aside0 (partsP k l0 (l0.length - 0) (List.replicate l0.length false) [] 0 = some r) := ⟨HH.out⟩
  clear HH
  go_loopw [4, 5, 6] (fun v4 v5 v6 wr => ∃ (m : Nat) (hd : Int) (tk : List Bool) (out : List (List Int)), v6 = .int .i64 (m : Int) ∧ v5 = .int .i64 hd ∧ m ≤ l0.length ∧ Aside0 (partsP k l0 (l0.length - m) tk out hd = some r) ∧ Aside0 (PW w l0.length At ct tk v4 out wr)) (fun _ _ vi _ => l0.length - (intOf vi).toNat)
  case atStart => exact ⟨0, 0, _, _, rfl, rfl, Nat.zero_le _, HPR, P1⟩
  case round =>
    obtain ⟨m, hd, tk, out, rfl, rfl, hm, hO, hW⟩ := hrel
    clear HPR P1
    obtain ⟨Av, cv, ev⟩ := Kd.S_slice hW.out.so
    subst ev
    by_cases hlt : m < l0.length
    · have y0 : decide ((m : Int) < (l0.length : Int)) = true := decide_eq_true (by omega)
      have hq := hO.out
      rw [show l0.length - m = (l0.length - (m + 1)) + 1 by omega] at hq
      simp only [partsP] at hq
      by_cases ch : hd ≥ 0
      · have y1 : decide (0 ≤ hd) = true := decide_eq_true ch
        rw [if_pos ch] at hq
        obtain ⟨l, hl, hq⟩ := Option.bind_eq_some_iff.mp hq
        split at hq
        rotate_left
        · cases hq
        rename_i hbg
        obtain ⟨tk2, ht, hq⟩ := Option.bind_eq_some_iff.mp hq
        obtain ⟨rc, hrc, hq⟩ := Option.bind_eq_some_iff.mp hq
        split at hq
        rotate_left
        · cases hq
        rename_i hrl
        obtain ⟨h2, hh, hq⟩ := Option.bind_eq_some_iff.mp hq
        have htkl := (Kd.R_reads' hW.out.rt).1
        have HL := Aside0.mk hl
        have HBG := Aside0.mk hbg
        have HT := Aside0.mk ht
        have HRC := Aside0.mk hrc
        have HRL := Aside0.mk hrl
        have HHD := Aside0.mk hh
        have HQ := Aside0.mk hq
        have HTL := Aside0.mk htkl
        clear hl hbg ht hrc hrl hh hq htkl hO ch
        go_wp2_with (first | ((with_reducible refine gate_callee (f := 70) rfl ?_); refine goesL_ (some 30) rfl rfl Try.func70 (by kernel_rfl) rfl #[.slice A0 l0.length c0, .int .i64 hd, .slice At l0.length ct] rfl (by (try simp only [List.map_toArray, List.map_cons, List.map_nil]); first | done | rfl) ?_; (with_reducible refine ((by have h_ := ladderbackref34_Interval.calls k A0 c0 l0 hd At ct tk l wr (Kd.C_below HR0.out hW.out.below) HC0.out (Kd.R_reads' hW.out.rt).2.2 (by have := (Kd.R_reads' hW.out.rt).2.1; rw [← HTL.out]; exact this) HL.out; rw [← HTL.out] at h_; exact h_ : Calls Try.prog 70 #[.slice A0 l0.length c0, .int .i64 hd, .slice At l0.length ct] wr _).mono ?_)); rintro e w3 ⟨vl, rfl, ho, hb⟩; refine ⟨_, rfl, ?_⟩; obtain ⟨Al, cl, el⟩ := Kd.R_slice ho; subst el; have W3 := Aside0.mk (hW.out.more hb); have L3 := Aside0.mk ho; have B3 := Aside0.mk hb; clear ho hb) | ((with_reducible refine gate_builtin (b := .append) (xs := #[.tmp 31, .tmp 33]) rfl ?_); at_builtin; refine Kd.S_append (Kd.slice 3 (Kd.int .i64)) (w0 := w) w.heap.size rfl (.tmp 31) (.tmp 33) 22 27 (.slice none 0 0) 24 rfl Try.underlying22 DomA.infoS rfl (by decide) (by omega) (.slice Av out.length cv) out l [.slice Al l.length cl] (fun k_ => some k_ ≠ (Value.slice At l0.length ct).ownBlock) (fun k_ => wr.heap.size ≤ k_ ∧ k_ < w3.heap.size) rfl rfl ?aP ?aK ?aF ?aO ?aB ?aS ?aL ?_; (case aP => exact Kd.M_row (Kd.R_reok rfl (Kd.R_lower L3.out (below_size hW.out.below)) (fun k_ e_ => ⟨Kd.R_base L3.out k_ e_, DomA.ownLt L3.out k_ e_⟩))); (case aK => exact (fun k_ hk => ⟨fun e_ => Nat.not_le.2 (DomA.ownLtB hW.out.rt k_ e_.symm) hk.1, fun e_ => Nat.not_le.2 (DomA.ownLtS hW.out.so k_ e_.symm) hk.1⟩)); (case aF => exact (fun k_ hk e_ => Nat.not_le.2 (DomA.ownLtB W3.out.rt k_ e_.symm) hk)); (case aO => exact Kd.S_below (Kd.S_mono (Kd.S_bound hW.out.so) (fun k_ hk => ⟨hk.1, fun h_ => Nat.not_le.2 hk.2.2.1 h_.1⟩)) B3.out); (case aB => exact W3.out.below); (case aS => exact below_size W3.out.below); (case aL => have := HBG.out.1; omega); intro v4 w4 ho hb hg hat; have W4 : Aside0 (PW w l0.length At ct tk v4 (out ++ [l]) w4) := ⟨⟨hb, Kd.R_mono (Kd.R_grown (Kd.R_tight rfl W3.out.rt) hg (fun k_ hk e_ => (Kd.S_R W3.out.so).1 k_ e_.symm hk)) (fun _ _ => trivial), ho⟩⟩; have L4 := Aside0.mk (Kd.R_grown (Kd.R_tight rfl L3.out) hg (fun k_ hk e_ => Nat.not_le.2 (DomA.ownLtS hW.out.so k_ e_.symm) (Kd.R_base L3.out k_ hk.symm))); have G4 : Aside0 (∀ k_, (Value.slice Al l.length cl).ownBlock = some k_ → some k_ ≠ (Value.slice At l0.length ct).ownBlock) := ⟨fun k_ hk e_ => Nat.not_le.2 (DomA.ownLtB hW.out.rt k_ e_.symm) (Kd.R_base L3.out k_ hk)⟩; clear ho hb hg hat))
        have HT0 : Aside0 (markF (l.drop 0) tk = some tk2) := ⟨by rw [List.drop_zero]; exact HT.out⟩
        clear HT
        go_loopw [8] (fun v8 w5 => ∃ (j : Nat) (tkj : List Bool), v8 = .int .i64 (j : Int) ∧ j ≤ l.length ∧ Aside0 (markF (l.drop j) tkj = some tk2) ∧ Aside0 (PW w l0.length At ct tkj v4 (out ++ [l]) w5) ∧ Aside0 (Kd.R (Kd.int .i64) 3 w5 wr.heap.size (fun k_ => some k_ = (Value.slice Al l.length cl).ownBlock) (.slice Al l.length cl) l)) (fun vi _ => l.length - (intOf vi).toNat)
        case atStart => exact ⟨0, _, rfl, Nat.zero_le _, HT0, W4, L4⟩
        case round =>
          obtain ⟨j, tkj, rfl, hj, hO, hW5, hL5⟩ := hrel
          clear HT0 W4 L4
          by_cases hlt2 : j < l.length
          · have z0 : decide ((j : Int) < (l.length : Int)) = true := decide_eq_true (by omega)
            have z1 : (j < l.length) = True := eq_true hlt2
            have hq := hO.out
            rw [PdC.drop_rd l j hlt2] at hq
            simp only [markF] at hq
            split at hq
            rotate_left
            · cases hq
            rename_i hv
            obtain ⟨adl, el, hxl⟩ := Kd.at_int (Kd.R_reads' hL5.out).2.2 (j : Int) (by omega) (by omega)
            subst el
            rw [Int.toNat_natCast] at hxl
            have htl := (Kd.R_reads' hW5.out.rt).1
            generalize rd l (j : Int) = v at hxl hq hv
            obtain ⟨u, rfl⟩ : ∃ u : Nat, v = (u : Int) := ⟨v.toNat, by omega⟩
            rw [Int.toNat_natCast] at hq
            obtain ⟨g, eg, hxt, hft, hp5, hg5⟩ := hW5.out.put u (by omega)
            subst eg
            have z2 : (u < l0.length) = True := eq_true (by omega)
            have HQ5 := Aside0.mk hq
            have W6 := Aside0.mk hp5
            have L6 := Aside0.mk (Kd.R_grown hL5.out hg5 (fun k_ hk e_ => G4.out k_ hk.symm (e_.trans rfl)))
            clear hq hv htl hp5 hg5 hO
            go_wp2
            go_roundw
            case rel => exact ⟨j + 1, _, by rw [PdC.wnext j (by have := HBG.out.2; omega)], hlt2, HQ5, W6, L6⟩
            case measure => rw [PdC.wnext j (by have := HBG.out.2; omega)]; simp only [intOf, Int.toNat_natCast]; omega
          · obtain rfl : j = l.length := by omega
            have hq := hO.out
            rw [List.drop_length] at hq
            simp only [markF, Option.some.injEq] at hq
            subst tkj
            have z0 : decide ((l.length : Int) < (l.length : Int)) = false := decide_eq_false (by omega)
            clear hlt2 hj hO hL5
            go_wp2_with (first | ((with_reducible refine gate_callee (f := 49) rfl ?_); refine goesL_ (some 48) rfl rfl Try.func49 (by kernel_rfl) rfl #[.slice A0 l0.length c0, .int .i64 0, .int .i64 (-1)] rfl (by (try simp only [List.map_toArray, List.map_cons, List.map_nil]); first | done | rfl) ?_; (with_reducible refine (ladderbackref31_Reach.calls k A0 c0 l0 0 (-1) rc wr (Kd.C_below HR0.out hW5.out.below) HC0.out HRC.out).mono ?_); rintro e w6 ⟨v6, rfl, ho, hb⟩; refine ⟨_, rfl, ?_⟩; obtain ⟨Ar, cr, er⟩ := Kd.R_slice ho; subst er; have W6 := Aside0.mk (hW5.out.more hb); have R6 := Aside0.mk (Kd.R_reads' ho).2.2; clear ho hb))
            have hw : wrap64 ((l0.length : Int) - 1) = (l0.length : Int) - 1 := PdB.w64_of (by omega) (by have := HG.out; omega)
            have HW := Aside0.mk hw
            have HH0 : Aside0 (headP k l0 rc tk2 l0.length (-1) = some h2) := HHD
            have B60 := Aside0.mk (Below.refl w6.heap.size w6)
            rw [hw]
            clear HHD hw HL HRC hW5 L3 W3 B3
            go_loopw [5, 10] (fun v5 v10 w7 => ∃ (q : Nat) (h iv : Int), v5 = .int .i64 h ∧ v10 = .int .i64 iv ∧ iv + 1 = (q : Int) ∧ q ≤ l0.length ∧ Aside0 (headP k l0 rc tk2 q h = some h2) ∧ Aside0 (Below w6.heap.size w6 w7)) (fun _ vi _ => (intOf vi + 1).toNat)
            case atStart => exact ⟨l0.length, -1, _, rfl, rfl, by omega, Nat.le_refl _, HH0, B60⟩
            case round =>
              obtain ⟨q, h, iv, rfl, rfl, hiv, hql, hO, hB7⟩ := hrel
              clear HH0 B60
              cases q with
              | zero =>
                obtain rfl : iv = -1 := by omega
                have hq := hO.out
                simp only [headP, Option.some.injEq] at hq
                subst hq
                clear hiv hO
                go_wp2
                go_roundw
                case rel => exact ⟨m + 1, _, _, _, by rw [PdC.wnext m (by have := HG.out; omega)], rfl, hlt, HQ, ⟨W6.out.more hB7.out⟩⟩
                case measure => rw [PdC.wnext m (by have := HG.out; omega)]; simp only [intOf, Int.toNat_natCast]; omega
              | succ q =>
                obtain rfl : iv = (q : Int) := by omega
                have hq := hO.out
                simp only [headP] at hq
                obtain ⟨p, hp, hq⟩ := Option.bind_eq_some_iff.mp hq
                split at hq
                rotate_left
                · cases hq
                rename_i hpl
                obtain ⟨s, hs, hq⟩ := Option.bind_eq_some_iff.mp hq
                have HP := Aside0.mk hp
                have HPL := Aside0.mk hpl
                have HS : Aside0 (someF tk2 (p.drop 0) (DomA.flag 0) = some s) := ⟨by rw [List.drop_zero]; exact hs⟩
                have HQ2 := Aside0.mk hq
                have u0 : decide (0 ≤ (q : Int)) = true := decide_eq_true (by omega)
                have u1 : (0 ≤ (q : Int)) = True := eq_true (by omega)
                clear hp hpl hs hq hO hiv
                go_wp2_with (first | ((with_reducible refine gate_callee (f := 71) rfl ?_); refine goesL_ (some 58) rfl rfl Try.func71 (by kernel_rfl) rfl #[.slice A0 l0.length c0, .int .i64 (q : Int)] rfl (by (try simp only [List.map_toArray, List.map_cons, List.map_nil]); first | done | rfl) ?_; (with_reducible refine (ladderbackref34_from.calls k A0 c0 l0 (q : Int) p wr (Kd.C_below HR0.out (below_step W6.out.below hB7.out)) HC0.out HP.out).mono ?_); rintro e w8 ⟨v8, rfl, ho, hb⟩; refine ⟨_, rfl, ?_⟩; obtain ⟨Ap, cp, ep⟩ := Kd.R_slice ho; subst ep; have hB8 := Aside0.mk (below_step hB7.out hb); have P8 := Aside0.mk (Kd.R_reads' ho).2.2; clear ho hb))
                have W8 := Aside0.mk (W6.out.more hB8.out)
                have R8 := Aside0.mk (Kd.C_below R6.out hB8.out)
                go_loopw [11, 13] (fun v11 v13 w9 => ∃ (j f : Nat), v11 = .bool (DomA.flag f) ∧ v13 = .int .i64 (j : Int) ∧ j ≤ p.length ∧ Aside0 (someF tk2 (p.drop j) (DomA.flag f) = some s) ∧ w9 = w8) (fun _ vi _ => p.length - (intOf vi).toNat)
                case atStart => exact ⟨0, 0, rfl, rfl, Nat.zero_le _, HS, rfl⟩
                case round =>
                  obtain ⟨j, f, rfl, rfl, hj, hO, rfl⟩ := hrel
                  clear HS hB7
                  by_cases hlt2 : j < p.length
                  · have x0 : decide ((j : Int) < (p.length : Int)) = true := decide_eq_true (by omega)
                    have x1 : (j < p.length) = True := eq_true hlt2
                    have hq := hO.out
                    rw [PdC.drop_rd p j hlt2] at hq
                    simp only [someF] at hq
                    cases hfl : DomA.flag f with
                    | true =>
                      rw [hfl, if_pos rfl] at hq
                      have HQ9 : Aside0 (someF tk2 (p.drop (j + 1)) (DomA.flag 1) = some s) := ⟨hq⟩
                      clear hq hO
                      go_wp2
                      go_roundw
                      case rel => exact ⟨j + 1, 1, rfl, by rw [PdC.wnext j (by have := HPL.out; omega)], hlt2, HQ9, by trivial⟩
                      case measure => rw [PdC.wnext j (by have := HPL.out; omega)]; simp only [intOf, Int.toNat_natCast]; omega
                    | false =>
                      rw [hfl, if_neg (by decide)] at hq
                      split at hq
                      rotate_left
                      · cases hq
                      rename_i hv
                      obtain ⟨adp, ep, hxp⟩ := Kd.at_int P8.out (j : Int) (by omega) (by omega)
                      subst ep
                      rw [Int.toNat_natCast] at hxp
                      have htl := (Kd.R_reads' W8.out.rt).1
                      generalize rd p (j : Int) = v at hxp hq hv
                      obtain ⟨u, rfl⟩ : ∃ u : Nat, v = (u : Int) := ⟨v.toNat, by omega⟩
                      obtain ⟨g, eg, hxt, _, _, _⟩ := W8.out.put u (by omega)
                      subst eg
                      have x2 : (u < l0.length) = True := eq_true (by omega)
                      obtain ⟨f2, hf2⟩ := DomA.flag_of (rdOf false tk2 (u : Int))
                      rw [← hf2] at hxt hq
                      have HQ9 := Aside0.mk hq
                      clear hq hv htl hO hf2
                      go_wp2
                      go_roundw
                      case rel => exact ⟨j + 1, f2, rfl, by rw [PdC.wnext j (by have := HPL.out; omega)], hlt2, HQ9, by trivial⟩
                      case measure => rw [PdC.wnext j (by have := HPL.out; omega)]; simp only [intOf, Int.toNat_natCast]; omega
                  · obtain rfl : j = p.length := by omega
                    have hq := hO.out
                    rw [List.drop_length] at hq
                    simp only [someF, Option.some.injEq] at hq
                    have x0 : decide ((p.length : Int) < (p.length : Int)) = false := decide_eq_false (by omega)
                    have hrl := HRL.out
                    have htl := (Kd.R_reads' W8.out.rt).1
                    obtain ⟨adr, er, hxr⟩ := Kd.at_bool R8.out (q : Int) (by omega) (by omega)
                    subst er
                    rw [Int.toNat_natCast] at hxr
                    obtain ⟨g, eg, hxt, _, _, _⟩ := W8.out.put q (by omega)
                    subst eg
                    have x1 : (q < rc.length) = True := eq_true (by omega)
                    have x2 : (q < l0.length) = True := eq_true (by omega)
                    have hq2 := HQ2.out
                    rw [← hq] at hq2
                    generalize rdOf false rc (q : Int) = rb at hxr hq2
                    generalize rdOf false tk2 (q : Int) = tb at hxt hq2
                    clear hlt2 hj hO hq hrl htl
                    cases rb with
                    | false =>
                      rw [if_neg (fun h => by cases h.1)] at hq2
                      have HQ9 := Aside0.mk hq2
                      clear hq2
                      go_wp2
                      go_roundw
                      case rel => exact ⟨q, h, _, rfl, rfl, by rw [PdB.w64_of (by omega) (by have := HG.out; omega)]; omega, by omega, HQ9, hB8⟩
                      case measure => rw [PdB.w64_of (by omega) (by have := HG.out; omega)]; simp only [intOf]; omega
                    | true =>
                      cases tb with
                      | true =>
                        rw [if_neg (fun h => by cases h.2.1)] at hq2
                        have HQ9 := Aside0.mk hq2
                        clear hq2
                        go_wp2
                        go_roundw
                        case rel => exact ⟨q, h, _, rfl, rfl, by rw [PdB.w64_of (by omega) (by have := HG.out; omega)]; omega, by omega, HQ9, hB8⟩
                        case measure => rw [PdB.w64_of (by omega) (by have := HG.out; omega)]; simp only [intOf]; omega
                      | false =>
                        cases hfl : DomA.flag f with
                        | false =>
                          rw [hfl, if_neg (fun h => by cases h.2.2)] at hq2
                          have HQ9 := Aside0.mk hq2
                          clear hq2
                          go_wp2
                          go_roundw
                          case rel => exact ⟨q, h, _, rfl, rfl, by rw [PdB.w64_of (by omega) (by have := HG.out; omega)]; omega, by omega, HQ9, hB8⟩
                          case measure => rw [PdB.w64_of (by omega) (by have := HG.out; omega)]; simp only [intOf]; omega
                        | true =>
                          rw [hfl, if_pos ⟨rfl, rfl, rfl⟩] at hq2
                          have HQ9 := Aside0.mk hq2
                          clear hq2
                          go_wp2
                          go_roundw
                          case rel => exact ⟨q, (q : Int), _, rfl, rfl, by rw [PdB.w64_of (by omega) (by have := HG.out; omega)]; omega, by omega, HQ9, hB8⟩
                          case measure => rw [PdB.w64_of (by omega) (by have := HG.out; omega)]; simp only [intOf]; omega
      · have y1 : decide (0 ≤ hd) = false := decide_eq_false ch
        rw [if_neg ch] at hq
        injection hq with hq
        subst hq
        clear hO ch
        go_wp2
        go_ret
        exact ⟨_, rfl, Kd.S_mono hW.out.so (fun _ _ => trivial), hW.out.below⟩
    · obtain rfl : m = l0.length := by omega
      have hq := hO.out
      rw [Nat.sub_self] at hq
      simp only [partsP, Option.some.injEq] at hq
      subst hq
      have y0 : decide ((l0.length : Int) < (l0.length : Int)) = false := decide_eq_false (by omega)
      clear hlt hm hO
      go_wp2
      go_ret
      exact ⟨_, rfl, Kd.S_mono hW.out.so (fun _ _ => trivial), hW.out.below⟩
end Go.Proofs.Ytfiffhcpgojkhaa.QInterParts
/- ladderbackref34.Derive by hand, over Parts by hand and the printed Has. No condition. -/
namespace Go.Proofs.Ytfiffhcpgojkhaa.QInterParts
open Go.RowKit Go.Proofs.Ytfiffhcpgojkhaa Go.Proofs.YtfiffhcpgojkhaaW.PrintWords Go.Proofs.YtfiffhcpgojkhaaW.PrintLast Go.Proofs.YtfiffhcpgojkhaaW.PrintMore InterE
set_option linter.unusedVariables false
set_option linter.unusedSimpArgs false
def goesF (k : Nat) (next ls : List (List Int)) (a b : Nat) : List Int → Bool → Option Bool
 | [], g => some g
 | v :: l, g => if g = true then goesF k next ls a b l true else if a = b then goesF k next ls a b l false else if 0 ≤ v ∧ v < (next.length : Int) ∧ 0 < (DomA.rdL ls (b : Int)).length then (ladderbackref30_Has.f k (DomA.rdL next v) (rd (DomA.rdL ls (b : Int)) 0)).bind fun h => goesF k next ls a b l h else none
def derRow (k : Nat) (next ls : List (List Int)) (a : Nat) : Nat → Nat → List (List Int) → Option (List (List Int))
 | 0, _, P => some P
 | r + 1, b, P => (goesF k next ls a b (DomA.rdL ls (a : Int)) false).bind fun g => if g = true then (if (DomA.rdL P (a : Int)).length < 17592186044416 then derRow k next ls a r (b + 1) (P.set a (DomA.rdL P (a : Int) ++ [(b : Int)])) else none) else derRow k next ls a r (b + 1) P
def derAll (k : Nat) (next ls : List (List Int)) : Nat → Nat → List (List Int) → Option (List (List Int))
 | 0, _, P => some P
 | r + 1, a, P => if (DomA.rdL ls (a : Int)).length < 4611686018427387904 then (derRow k next ls a ls.length 0 P).bind fun P2 => derAll k next ls r (a + 1) P2 else none
def ladderbackref34_Derive.f (k : Nat) (l0 : List (List Int)) : Option (List (List Int)) := (ladderbackref34_Parts.f k l0).bind fun ls => if ls.length ≤ 5864062014805 then derAll k l0 ls ls.length 0 (List.replicate ls.length []) else none
theorem goesF_mono (k : Nat) (next ls : List (List Int)) (a b : Nat) : ∀ l g q, goesF k next ls a b l g = some q → goesF (k + 1) next ls a b l g = some q := by
  intro l
  induction l with
  | nil => intro g q h; exact h
  | cons v l ih =>
    intro g q h
    simp only [goesF] at h ⊢
    split at h
    · rename_i hc; rw [if_pos hc]; exact ih _ _ h
    · rename_i hc
      rw [if_neg hc]
      split at h
      · rename_i hc2; rw [if_pos hc2]; exact ih _ _ h
      · rename_i hc2
        rw [if_neg hc2]
        split at h
        · rename_i hc3
          rw [if_pos hc3]
          obtain ⟨x, hx, h⟩ := Option.bind_eq_some_iff.mp h
          rw [ladderbackref30_Has.mono _ _ k _ hx]
          simp only [Option.bind_some]
          exact ih _ _ h
        · cases h
theorem derRow_mono (k : Nat) (next ls : List (List Int)) (a : Nat) : ∀ r b P q, derRow k next ls a r b P = some q → derRow (k + 1) next ls a r b P = some q := by
  intro r
  induction r with
  | zero => intro b P q h; exact h
  | succ r ih =>
    intro b P q h
    simp only [derRow] at h ⊢
    obtain ⟨g, hg, h⟩ := Option.bind_eq_some_iff.mp h
    rw [goesF_mono _ _ _ _ _ _ _ _ hg]
    simp only [Option.bind_some]
    split at h
    · rename_i hc
      rw [if_pos hc]
      split at h
      · rename_i hc2; rw [if_pos hc2]; exact ih _ _ _ h
      · cases h
    · rename_i hc; rw [if_neg hc]; exact ih _ _ _ h
theorem derAll_mono (k : Nat) (next ls : List (List Int)) : ∀ r a P q, derAll k next ls r a P = some q → derAll (k + 1) next ls r a P = some q := by
  intro r
  induction r with
  | zero => intro a P q h; exact h
  | succ r ih =>
    intro a P q h
    simp only [derAll] at h ⊢
    split at h
    · rename_i hc
      rw [if_pos hc]
      obtain ⟨P2, h2, h⟩ := Option.bind_eq_some_iff.mp h
      rw [derRow_mono _ _ _ _ _ _ _ _ h2]
      simp only [Option.bind_some]
      exact ih _ _ _ h
    · cases h
theorem ladderbackref34_Derive.mono : ∀ a0 k, LeO (ladderbackref34_Derive.f k a0) (ladderbackref34_Derive.f (k + 1) a0) := by
  intro a0 k r h
  unfold ladderbackref34_Derive.f at h ⊢
  obtain ⟨ls, hl, h⟩ := Option.bind_eq_some_iff.mp h
  rw [ladderbackref34_Parts.mono _ _ _ hl]
  simp only [Option.bind_some]
  split at h
  · rename_i hc; rw [if_pos hc]; exact derAll_mono _ _ _ _ _ _ _ h
  · cases h
theorem derAll_step (k : Nat) (next ls : List (List Int)) (n m : Nat) (h : m < n) (P : List (List Int)) : derAll k next ls (n - m) m P = if (DomA.rdL ls (m : Int)).length < 4611686018427387904 then (derRow k next ls m ls.length 0 P).bind fun P2 => derAll k next ls (n - (m + 1)) (m + 1) P2 else none := by
  rw [show n - m = (n - (m + 1)) + 1 by omega]
  rfl
theorem derRow_step (k : Nat) (next ls : List (List Int)) (a n m : Nat) (h : m < n) (P : List (List Int)) : derRow k next ls a (n - m) m P = (goesF k next ls a m (DomA.rdL ls (a : Int)) false).bind fun g => if g = true then (if (DomA.rdL P (a : Int)).length < 17592186044416 then derRow k next ls a (n - (m + 1)) (m + 1) (P.set a (DomA.rdL P (a : Int) ++ [(m : Int)])) else none) else derRow k next ls a (n - (m + 1)) (m + 1) P := by
  rw [show n - m = (n - (m + 1)) + 1 by omega]
  rfl
set_option maxHeartbeats 16000000 in
set_option maxRecDepth 100000 in
theorem ladderbackref34_Derive.calls (k : Nat) (A0 : Option Addr) (c0 : Nat) (l0 : List (List Int)) (r : List (List Int)) (w : World) (hr0 : Kd.C (Kd.slice 3 (Kd.int .i64)) w A0 l0.length l0) (hc0 : l0.length ≤ c0) (h : ladderbackref34_Derive.f k l0 = some r) :
    Calls Try.prog 47 #[.slice A0 l0.length c0] w fun e w' => ∃ v0_ : Value, e = .returned v0_ ∧ Kd.S (Kd.slice 3 (Kd.int .i64)) 27 w' w.heap.size (fun _ => True) v0_ r ∧ Below w.heap.size w w' := by
  unfold ladderbackref34_Derive.f at h
  obtain ⟨ls, hp, h⟩ := Option.bind_eq_some_iff.mp h
  split at h
  rotate_left
  · cases h
  rename_i hg
  have HR0 := Aside0.mk hr0
  have HC0 := Aside0.mk hc0
  have HP := Aside0.mk hp
  have HG := Aside0.mk hg
  have HH : Aside0 (derAll k l0 ls (ls.length - 0) 0 (List.replicate ls.length []) = some r) := ⟨h⟩
  clear hr0 hc0 hp hg h
  go_enter Try.func47, Try.ntmps47
  go_wp2_with (first | ((with_reducible refine gate_callee (f := 45) rfl ?_); refine goesL_ (some 10) rfl rfl Try.func45 (by kernel_rfl) rfl #[.slice A0 l0.length c0] rfl (by (try simp only [List.map_toArray, List.map_cons, List.map_nil]); first | done | rfl) ?_; (with_reducible refine (ladderbackref34_Parts.calls k A0 c0 l0 ls w HR0.out HC0.out HP.out).mono ?_); rintro e w3 ⟨v1, rfl, ho, hb⟩; refine ⟨_, rfl, ?_⟩; obtain ⟨Al, cl, el⟩ := Kd.S_slice ho; subst el; have CL := Aside0.mk (Kd.S_reads' ho).2.2; have B3 := Aside0.mk hb; clear ho hb) | ((with_reducible refine gate_dst (N := 13) rfl ?_); (try (refine gate_guard (by rfl) ?_; dsimp only)); refine Kd.S_make (Kd.slice 3 (Kd.int .i64)) (w0 := w3) w3.heap.size 27 rfl (N := 13) rfl 22 _ _ rfl (ls.length : Int) rfl rfl Try.underlying22 (.slice none 0 0) 24 DomA.infoS rfl (by decide) (by omega) [] (ok := fun _ => True) (okp := fun _ => True) ⟨_, rfl, Kd.R_nil _ _ _ _ _⟩ (fun _ hk => hk) trivial (by omega) (by have := HG.out; omega) (Below.refl _ _) (Nat.le_refl _) ?_; intro v6 w4 ho1 hb1 hg_ hnew_; rw [Int.toNat_natCast] at ho1; obtain ⟨A3, c3, e3⟩ := Kd.S_slice ho1; rw [List.length_replicate] at e3; subst e3; have T4 : Aside0 (TO w3 (fun _ => True) A3 ls.length c3 (List.replicate ls.length []) w4) := ⟨ho1⟩; have B4 := Aside0.mk hb1; clear ho1 hb1 hg_ hnew_))
  go_loopw [5] (fun vi wr => ∃ (m : Nat) (P : List (List Int)), vi = .int .i64 (m : Int) ∧ m ≤ ls.length ∧ Aside0 (derAll k l0 ls (ls.length - m) m P = some r) ∧ Aside0 (TO w3 (fun _ => True) A3 ls.length c3 P wr) ∧ Aside0 (Below w3.heap.size w3 wr)) (fun vi _ => ls.length - (intOf vi).toNat)
  case atStart => exact ⟨0, _, rfl, Nat.zero_le _, HH, T4, B4⟩
  case round =>
    obtain ⟨m, P, rfl, hm, hO, hT, hB⟩ := hrel
    clear HH T4 B4
    by_cases hlt : m < ls.length
    · have hq := hO.out
      rw [derAll_step _ _ _ _ _ hlt] at hq
      split at hq
      rotate_left
      · cases hq
      rename_i hrl
      obtain ⟨P2, hq1, hq2⟩ := Option.bind_eq_some_iff.mp hq
      obtain ⟨row, hrow⟩ : ∃ row, row = DomA.rdL ls (m : Int) := ⟨_, rfl⟩
      rw [← hrow] at hrl
      have HRW := Aside0.mk hrow
      have HRL := Aside0.mk hrl
      have HQ1 : Aside0 (derRow k l0 ls m (ls.length - 0) 0 P = some P2) := ⟨hq1⟩
      have HQ2 := Aside0.mk hq2
      have y0 : decide ((m : Int) < (ls.length : Int)) = true := decide_eq_true (by omega)
      have y1 : (m < ls.length) = True := eq_true hlt
      clear hq hq1 hq2 hO hrow hrl
      go_wp2
      go_loopw [6] (fun vi w5 => ∃ (b : Nat) (P' : List (List Int)), vi = .int .i64 (b : Int) ∧ b ≤ ls.length ∧ Aside0 (derRow k l0 ls m (ls.length - b) b P' = some P2) ∧ Aside0 (TO w3 (fun _ => True) A3 ls.length c3 P' w5) ∧ Aside0 (Below w3.heap.size w3 w5)) (fun vi _ => ls.length - (intOf vi).toNat)
      case atStart => exact ⟨0, _, rfl, Nat.zero_le _, HQ1, hT, hB⟩
      case round =>
        obtain ⟨b, P', rfl, hb, hO, hT2, hB2⟩ := hrel
        clear HQ1 hT hB y0
        by_cases hlt2 : b < ls.length
        · have hq := hO.out
          rw [derRow_step _ _ _ _ _ _ hlt2, ← HRW.out] at hq
          obtain ⟨gs, hgs, hq⟩ := Option.bind_eq_some_iff.mp hq
          have HGS : Aside0 (goesF k l0 ls m b (row.drop 0) (DomA.flag 0) = some gs) := ⟨by rw [List.drop_zero]; exact hgs⟩
          have HQ3 := Aside0.mk hq
          have z0 : decide ((b : Int) < (ls.length : Int)) = true := decide_eq_true (by omega)
          have z1 : (b < ls.length) = True := eq_true hlt2
          clear hgs hq hO
          go_wp2
          go_loopw [7, 8] (fun v7 v8 w9 => ∃ (j f : Nat), v7 = .bool (DomA.flag f) ∧ v8 = .int .i64 (j : Int) ∧ j ≤ row.length ∧ Aside0 (goesF k l0 ls m b (row.drop j) (DomA.flag f) = some gs) ∧ Aside0 (TO w3 (fun _ => True) A3 ls.length c3 P' w9) ∧ Aside0 (Below w3.heap.size w3 w9)) (fun _ vi _ => row.length - (intOf vi).toNat)
          case atStart => exact ⟨0, 0, rfl, rfl, Nat.zero_le _, HGS, hT2, hB2⟩
          case round =>
            obtain ⟨j, f, rfl, rfl, hj, hO, hT3, hB3⟩ := hrel
            clear HGS hT2 hB2 z0
            obtain ⟨adl, Aa, ca, eAl, hxa, hla, hra⟩ := DomA.at_L (Kd.C_below CL.out hB3.out) (m : Int) (by omega) (by omega)
            subst eAl
            rw [Int.toNat_natCast, ← HRW.out] at hxa
            rw [← HRW.out] at hla hra
            have HLA := Aside0.mk hla
            clear hla
            by_cases hlt3 : j < row.length
            · have x0 : decide ((j : Int) < (row.length : Int)) = true := decide_eq_true (by omega)
              have x1 : (j < row.length) = True := eq_true hlt3
              have hq := hO.out
              rw [PdC.drop_rd row j hlt3] at hq
              simp only [goesF] at hq
              cases hfl : DomA.flag f with
              | true =>
                rw [hfl, if_pos rfl] at hq
                have HQ9 : Aside0 (goesF k l0 ls m b (row.drop (j + 1)) (DomA.flag 1) = some gs) := ⟨hq⟩
                clear hq hO hra
                go_wp2
                repeat (go_quiet (fail); try go_wp2)
                go_roundw
                case rel => exact ⟨j + 1, 1, rfl, by rw [PdC.wnext j (by have := HRL.out; omega)], hlt3, HQ9, ⟨Kd.S_drewN hT3.out _⟩, ⟨pw_below_drewN hB3.out _⟩⟩
                case measure => rw [PdC.wnext j (by have := HRL.out; omega)]; simp only [intOf, Int.toNat_natCast]; omega
              | false =>
                rw [hfl, if_neg (by decide)] at hq
                by_cases hab : m = b
                · rw [if_pos hab] at hq
                  have x2 : ((m : Int) != (b : Int)) = false := bne_eq_false_iff_eq.mpr (by omega)
                  have HQ9 : Aside0 (goesF k l0 ls m b (row.drop (j + 1)) (DomA.flag 0) = some gs) := ⟨hq⟩
                  have HAB := Aside0.mk hab
                  clear hq hO hra hab
                  go_wp2
                  repeat (go_quiet (fail); try go_wp2)
                  go_roundw
                  case rel => exact ⟨j + 1, 0, rfl, by rw [PdC.wnext j (by have := HRL.out; omega)], hlt3, HQ9, ⟨Kd.S_drewN hT3.out _⟩, ⟨pw_below_drewN hB3.out _⟩⟩
                  case measure => rw [PdC.wnext j (by have := HRL.out; omega)]; simp only [intOf, Int.toNat_natCast]; omega
                · rw [if_neg hab] at hq
                  split at hq
                  rotate_left
                  · cases hq
                  rename_i hv
                  obtain ⟨hs, hhs, hq⟩ := Option.bind_eq_some_iff.mp hq
                  have x2 : ((m : Int) != (b : Int)) = true := bne_iff_ne.mpr (by omega)
                  obtain ⟨ada, ea, hxj⟩ := Kd.at_int hra (j : Int) (by omega) (by omega)
                  subst ea
                  rw [Int.toNat_natCast] at hxj
                  generalize rd row (j : Int) = v at hxj hv hhs
                  obtain ⟨u, rfl⟩ : ∃ u : Nat, v = (u : Int) := ⟨v.toNat, by omega⟩
                  obtain ⟨adn, Av, cv, en, hxv, hlv, hrv⟩ := DomA.at_L (Kd.C_below HR0.out (below_step B3.out hB3.out)) (u : Int) (by omega) (by omega)
                  subst en
                  rw [Int.toNat_natCast] at hxv
                  obtain ⟨_, Ab, cb, el, hxb, hlb, hrb⟩ := DomA.at_L (Kd.C_below CL.out hB3.out) (b : Int) (by omega) (by omega)
                  injection el with el
                  subst el
                  rw [Int.toNat_natCast] at hxb
                  obtain ⟨adb, eb, hx0⟩ := Kd.at_int hrb 0 (by omega) (by omega)
                  subst eb
                  rw [show ((0 : Int)).toNat = 0 from rfl, Addr.add_zero'] at hx0
                  have x3 : (u < l0.length) = True := eq_true (by omega)
                  have x4 : (0 < (DomA.rdL ls (b : Int)).length) = True := eq_true hv.2.2
                  generalize rd (DomA.rdL ls (b : Int)) 0 = hd at hx0 hhs
                  generalize (DomA.rdL ls (b : Int)).length = nb at hxb x4
                  have HHS := Aside0.mk hhs
                  have HRV := Aside0.mk hrv
                  have HLV := Aside0.mk hlv
                  obtain ⟨f2, hf2⟩ := DomA.flag_of hs
                  have HQ9 : Aside0 (goesF k l0 ls m b (row.drop (j + 1)) (DomA.flag f2) = some gs) := ⟨by rw [hf2]; exact hq⟩
                  have HF2 := Aside0.mk hf2
                  have HAB := Aside0.mk hab
                  clear hq hO hra hab hv hhs hrv hlv hlb hrb hf2
                  go_wp2
                  have hX : ∀ n_, Calls Try.prog 18 #[.slice Av (DomA.rdL l0 (u : Int)).length cv, .int .i64 hd] (wr.drewN n_) fun e w2 => e = .returned (.bool hs) ∧ ∃ m_, w2 = wr.drewN m_ := fun n_ => Calls.quiet_of ((ladderbackref30_Has.calls k Av cv (DomA.rdL l0 (u : Int)) hd hs _ (Kd.C_drewN HRV.out _) HLV.out HHS.out).mono (by rintro e w2 ⟨rfl, ⟨q_, rfl⟩⟩; exact ⟨rfl, q_, rfl⟩))
                  repeat (go_quiet ((go_at_call 18; exact hX _)); try go_wp2)
                  go_roundw
                  case rel => exact ⟨j + 1, f2, by rw [HF2.out], by rw [PdC.wnext j (by have := HRL.out; omega)], hlt3, HQ9, ⟨Kd.S_drewN hT3.out _⟩, ⟨pw_below_drewN hB3.out _⟩⟩
                  case measure => rw [PdC.wnext j (by have := HRL.out; omega)]; simp only [intOf, Int.toNat_natCast]; omega
            · obtain rfl : j = row.length := by omega
              have hq := hO.out
              rw [List.drop_length] at hq
              simp only [goesF, Option.some.injEq] at hq
              have x0 : decide ((row.length : Int) < (row.length : Int)) = false := decide_eq_false (by omega)
              have hq3 := HQ3.out
              rw [← hq] at hq3
              clear hlt3 hj hO hq hra
              cases hfl : DomA.flag f with
              | false =>
                rw [hfl, if_neg (by decide)] at hq3
                have HQ9 := Aside0.mk hq3
                clear hq3
                go_wp2
                go_roundw
                case rel => exact ⟨b + 1, _, by rw [PdC.wnext b (by have := HG.out; omega)], hlt2, HQ9, hT3, hB3⟩
                case measure => rw [PdC.wnext b (by have := HG.out; omega)]; simp only [intOf, Int.toNat_natCast]; omega
              | true =>
                rw [hfl, if_pos rfl] at hq3
                split at hq3
                rotate_left
                · cases hq3
                rename_i hbig
                obtain ⟨g, eg⟩ := TO.addr hT3.out (by omega)
                subst eg
                obtain ⟨A5, c5, oki, _, _, hw3, hx5, hr5, hok5, hput⟩ := TO.elem hT3.out (m : Int) (by omega) (by omega)
                rw [Int.toNat_natCast] at hx5 hput
                obtain ⟨el, hel⟩ : ∃ el, el = DomA.rdL P' (m : Int) := ⟨_, rfl⟩
                rw [← hel] at hx5 hr5 hput hq3 hbig
                have HBIG := Aside0.mk hbig
                have HQ9 := Aside0.mk hq3
                have HR5 := Aside0.mk hr5
                have HPUT := Aside0.mk hput
                have HW3 := Aside0.mk hw3
                clear hbig hq3 hel hr5 hput hw3 hok5
                go_wp2_with (first | ((with_reducible refine gate_builtin (b := .append) (xs := #[.tmp 66, .tmp 68]) rfl ?_); (try (refine gate_guard (by rfl) ?_; dsimp only)); at_builtin; refine Kd.R_append (Kd.int .i64) (w0 := w3) w3.heap.size rfl (.tmp 66) (.tmp 68) 27 3 (.int .i64 0) 8 rfl Try.underlying27 DomA.infoI rfl (by decide) (by omega) (.slice A5 el.length c5) el (b : Int) [.int .i64 (b : Int)] (fun k_ => oki k_ ∨ True ∧ wr.heap.size ≤ k_) (fun _ => False) rfl rfl ?aP (fun _ hk => hk.elim) ?aF ?aO ?aB ?aS ?aL ?_; (case aP => exact rfl); (case aB => exact hB3.out); (case aF => exact (fun k_ hk => .inr ⟨trivial, hk⟩)); (case aO => exact Kd.R_mono HR5.out (fun _ hk => .inl hk)); (case aS => exact below_size hB3.out); (case aL => have := HBIG.out; omega); intro v10 w10 ho hb hg hat; obtain ⟨⟨u10, f10⟩, f11, hp10, hg10⟩ := HPUT.out w10 v10 _ ho hg; have T11 := Aside0.mk hp10; have B11 : Aside0 (Below w3.heap.size w3 (w10.setCell ⟨g, m, none⟩ v10)) := ⟨below_set hb HW3.out⟩; obtain ⟨A10, c10, e10⟩ := Kd.R_slice ho; subst e10; clear ho hb hg hat hp10 hg10))
                go_roundw
                case rel => exact ⟨b + 1, _, by rw [PdC.wnext b (by have := HG.out; omega)], hlt2, HQ9, ⟨by have := T11.out; rw [List.length_append] at this; exact this⟩, ⟨by have := B11.out; rw [List.length_append] at this; exact this⟩⟩
                case measure => rw [PdC.wnext b (by have := HG.out; omega)]; simp only [intOf, Int.toNat_natCast]; omega
        · obtain rfl : b = ls.length := by omega
          have hq := hO.out
          rw [Nat.sub_self] at hq
          simp only [derRow, Option.some.injEq] at hq
          subst hq
          have z0 : decide ((ls.length : Int) < (ls.length : Int)) = false := decide_eq_false (by omega)
          clear hlt2 hb hO
          go_wp2
          go_roundw
          case rel => exact ⟨m + 1, _, by rw [PdC.wnext m (by have := HG.out; omega)], hlt, HQ2, hT2, hB2⟩
          case measure => rw [PdC.wnext m (by have := HG.out; omega)]; simp only [intOf, Int.toNat_natCast]; omega
    · obtain rfl : m = ls.length := by omega
      have hq := hO.out
      rw [Nat.sub_self] at hq
      simp only [derAll, Option.some.injEq] at hq
      subst hq
      have y0 : decide ((ls.length : Int) < (ls.length : Int)) = false := decide_eq_false (by omega)
      clear hlt hm hO
      go_wp2
      go_ret
      exact ⟨_, rfl, Kd.S_lower hT.out (below_size B3.out), below_step B3.out hB.out⟩
end Go.Proofs.Ytfiffhcpgojkhaa.QInterParts
