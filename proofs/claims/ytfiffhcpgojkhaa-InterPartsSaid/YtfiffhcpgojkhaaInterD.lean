/- slices.ContainsFunc over a row of whole numbers, by hand, at whatever function value that only draws. No condition. -/
import Derived.Test.YtfiffhcpgojkhaaProg
import Derived.Shelf.GgClosure.Gives
import Derived.Test.YtfiffhcpgojkhaaSort
import Derived.Test.YtfiffhcpgojkhaaWTab
import Derived.Test.YtfiffhcpgojkhaaWFour
import Derived.Test.YtfiffhcpgojkhaaWQPut
import Derived.Test.YtfiffhcpgojkhaaWApart
import Derived.Test.YtfiffhcpgojkhaaWArr
import Derived.Test.YtfiffhcpgojkhaaWZeros
import Derived.Test.YtfiffhcpgojkhaaWFoot
import Derived.Test.YtfiffhcpgojkhaaWKept
import Derived.Test.YtfiffhcpgojkhaaWShare
import Derived.Test.YtfiffhcpgojkhaaWN
import Derived.Test.YtfiffhcpgojkhaaWFootNe
import Derived.Test.YtfiffhcpgojkhaaWAt
import Derived.Test.YtfiffhcpgojkhaaWGuard
import Derived.Test.YtfiffhcpgojkhaaWNEv
import Derived.Test.YtfiffhcpgojkhaaPdC
import Derived.Test.YtfiffhcpgojkhaaTrods
import Derived.Laws.EntriesVeiled
import Derived.Shelf.Abstract
import Derived.Test.YtfiffhcpgojkhaaDomE
import Derived.Test.YtfiffhcpgojkhaaPdB
namespace Go.Proofs.Ytfiffhcpgojkhaa
open Go.RowKit Go.Proofs.YtfiffhcpgojkhaaW.PrintWords Go.Proofs.YtfiffhcpgojkhaaW.PrintLast Go.Proofs.YtfiffhcpgojkhaaW.PrintMore
set_option linter.unusedVariables false
set_option linter.unusedSimpArgs false
/-- The first place, from i on, of an element with p. -/
def idxOf (p : Int → Bool) : List Int → Nat → Int
 | [], _ => -1
 | x :: l, i => if p x = true then (i : Int) else idxOf p l (i + 1)
theorem idxOf_iff (p : Int → Bool) : ∀ (l : List Int) (i : Nat), idxOf p l i ≥ 0 ↔ l.any p = true := by
  intro l
  induction l with
  | nil => intro i; simp [idxOf]
  | cons x l ih =>
    intro i
    rw [List.any_cons]
    by_cases h : p x = true
    · have e : idxOf p (x :: l) i = (i : Int) := by simp only [idxOf]; rw [if_pos h]
      rw [e, h]; exact ⟨fun _ => rfl, fun _ => by omega⟩
    · have e : idxOf p (x :: l) i = idxOf p l (i + 1) := by simp only [idxOf]; rw [if_neg h]
      have : p x = false := by simpa using h
      rw [e, this, Bool.false_or]; exact ih _
theorem idxOf_any (p : Int → Bool) (l : List Int) (i : Nat) : decide (idxOf p l i ≥ 0) = l.any p := by
  cases h : l.any p with
  | true => exact decide_eq_true ((idxOf_iff p l i).mpr h)
  | false => exact decide_eq_false fun h2 => by rw [(idxOf_iff p l i).mp h2] at h; cases h
set_option maxHeartbeats 4000000 in
set_option maxRecDepth 100000 in
theorem index_any (g : Nat) (eg : ∀ args w, (callFunc g args).run Try.prog w = .ok (.enter g args) w) (lb : Array Value) (p : Int → Bool) (A0 : Option Addr) (c0 : Nat) (l0 : List Int) (w : World) (hr0 : Kd.C (Kd.int .i64) w A0 l0.length l0) (hlen : l0.length < 4611686018427387904)
    (hp : ∀ q : Nat, ∀ x ∈ l0, Calls Try.prog g (#[.int .i64 x] ++ lb) (w.drewN q) fun e w' => e = .returned (.bool (p x)) ∧ ∃ q', w' = w.drewN q') :
    Calls Try.prog 104 #[.slice A0 l0.length c0, .func (.func g) #[] lb] w fun e w' => e = .returned (.int .i64 (idxOf p l0 0)) ∧ ∃ q, w' = w.drewN q := by
  have HR0 := Aside0.mk hr0
  have HL := Aside0.mk hlen
  have HP := Aside0.mk hp
  have H0 : Aside0 (idxOf p l0 0 = idxOf p (l0.drop 0) 0) := ⟨by rw [List.drop_zero]⟩
  clear hr0 hlen hp
  go_enter Try.func104, Try.ntmps104
  go_wp2
  go_loopw [5, 8] (fun v5 vi wr => ∃ (m q : Nat), vi = .int .i64 (m : Int) ∧ m ≤ l0.length ∧ Aside0 (idxOf p l0 0 = idxOf p (l0.drop m) m) ∧ wr = w.drewN q) (fun _ vi _ => l0.length - (intOf vi).toNat)
  case atStart => exact ⟨0, 0, rfl, Nat.zero_le _, H0, rfl⟩
  case round =>
    obtain ⟨m, q, rfl, hm, hO, rfl⟩ := hrel
    clear H0
    by_cases hlt : m < l0.length
    · obtain ⟨ad, eA, hx⟩ := Kd.at_int (Kd.C_drewN HR0.out q) (m : Int) (by omega) (by omega)
      subst eA
      rw [Int.toNat_natCast] at hx
      have hq := hO.out
      rw [PdC.drop_rd l0 m hlt] at hq
      have hmem := PdC.rd_mem l0 m hlt
      have hcall := HP.out q _ hmem
      have y0 : decide ((m : Int) < (l0.length : Int)) = true := decide_eq_true (by omega)
      have y1 : (m < l0.length) = True := eq_true hlt
      generalize rd l0 (m : Int) = c at hx hq hcall
      have HQ := Aside0.mk hq
      clear hq hO hmem
      cases hz : p c with
      | true =>
        rw [hz] at hcall
        have hres : Aside0 (idxOf p l0 0 = (m : Int)) := ⟨by rw [HQ.out]; simp [idxOf, hz]⟩
        go_wp2_with (go_at_fn g; refine hcall.mono ?_; rintro e w' ⟨rfl, q2, rfl⟩)
        go_ret
        exact ⟨by rw [hres.out]; rfl, q2, rfl⟩
      | false =>
        rw [hz] at hcall
        have hres : Aside0 (idxOf p l0 0 = idxOf p (l0.drop (m + 1)) (m + 1)) := ⟨by rw [HQ.out]; simp [idxOf, hz]⟩
        go_wp2_with (go_at_fn g; refine hcall.mono ?_; rintro e w' ⟨rfl, q2, rfl⟩)
        go_roundw
        case rel => exact ⟨m + 1, q2, by rw [PdC.wnext m (by have := HL.out; omega)], hlt, hres, by trivial⟩
        case measure => rw [PdC.wnext m (by have := HL.out; omega)]; simp only [intOf, Int.toNat_natCast]; omega
    · obtain rfl : m = l0.length := by omega
      have y0 : decide ((l0.length : Int) < (l0.length : Int)) = false := decide_eq_false (by omega)
      have hres : Aside0 (idxOf p l0 0 = -1) := ⟨by rw [hO.out, List.drop_length]; rfl⟩
      clear hlt hm hO
      go_wp2
      go_ret
      exact ⟨by rw [hres.out]; rfl, q, rfl⟩
set_option maxHeartbeats 4000000 in
theorem contains_any (g : Nat) (eg : ∀ args w, (callFunc g args).run Try.prog w = .ok (.enter g args) w) (lb : Array Value) (p : Int → Bool) (A0 : Option Addr) (c0 : Nat) (l0 : List Int) (w : World) (hr0 : Kd.C (Kd.int .i64) w A0 l0.length l0) (hlen : l0.length < 4611686018427387904)
    (hp : ∀ q : Nat, ∀ x ∈ l0, Calls Try.prog g (#[.int .i64 x] ++ lb) (w.drewN q) fun e w' => e = .returned (.bool (p x)) ∧ ∃ q', w' = w.drewN q') :
    Calls Try.prog 96 #[.slice A0 l0.length c0, .func (.func g) #[] lb] w fun e w' => e = .returned (.bool (l0.any p)) ∧ ∃ q, w' = w.drewN q := by
  have hcall := index_any g eg lb p A0 c0 l0 w hr0 hlen hp
  have hany := idxOf_any p l0 0
  generalize idxOf p l0 0 = r at hcall hany
  clear hp hr0
  go_enter Try.func96, Try.ntmps96
  go_wp2_with (go_at_call 104; refine hcall.mono ?_; rintro e w' ⟨rfl, q2, rfl⟩)
  go_ret
  exact ⟨by rw [← hany]; rfl, q2, rfl⟩
end Go.Proofs.Ytfiffhcpgojkhaa
/- inter.known.head by hand, with its closure. No condition but that the rows are as long as one another and of places. -/
namespace Go.Proofs.Ytfiffhcpgojkhaa
open Go.RowKit Go.Proofs.YtfiffhcpgojkhaaW.PrintWords Go.Proofs.YtfiffhcpgojkhaaW.PrintLast Go.Proofs.YtfiffhcpgojkhaaW.PrintMore
set_option linter.unusedVariables false
set_option linter.unusedSimpArgs false
def rdR (xs : List (List Int)) (i : Int) : List Int := xs.getD i.toNat ([] : List Int)
theorem at_R {w : World} {A : Option Addr} {n : Nat} {xs : List (List Int)} (h : Kd.C (Kd.slice 3 (Kd.int .i64)) w A n xs) (i : Int) (h0 : 0 ≤ i) (h1 : i < n) : ∃ ad A0 c0, A = some ad ∧ w.cell? (ad.add i.toNat) = some (.slice A0 (rdR xs i).length c0) ∧ (rdR xs i).length ≤ c0 ∧ Kd.C (Kd.int .i64) w A0 (rdR xs i).length (rdR xs i) := by
  obtain ⟨ad, c, e, _, hK, hc0⟩ := Kd.C_get h ([] : List Int) i h0 h1
  have hc : ∀ j u, c[j]? = some u → w.cell? (ad.add (i.toNat * 1 + j)) = some u := hc0
  obtain ⟨A0, c0, rfl, l0, g0⟩ := hK
  exact ⟨ad, A0, c0, e, by have hq := hc 0 _ rfl; rwa [Nat.mul_one, Nat.add_zero] at hq, l0, g0⟩
/-- The boxes of a known and of an 'of'. -/
def HI (w0 : World) (gs go : Nat) (s0 s1 s2 o : Value) (W : World) : Prop := Below w0.heap.size w0 W ∧ W.heap[gs]? = some (.cells #[s0, s1, s2] 74 (0, 0)) ∧ W.heap[go]? = some (.cells #[o] 27 (0, 0))
theorem HI.drewN {w0 : World} {gs go : Nat} {s0 s1 s2 o : Value} {W : World} (h : HI w0 gs go s0 s1 s2 o W) (n : Nat) : HI w0 gs go s0 s1 s2 o (W.drewN n) := ⟨pw_below_drewN h.1 _, h.2.1, h.2.2⟩
set_option maxHeartbeats 4000000 in
theorem head1_any (gb : Nat) (of : List Int) (Ao : Option Addr) (co : Nat) (W : World) (hb : W.cell? ⟨gb, 0, none⟩ = some (.slice Ao of.length co)) (hr : Kd.C (Kd.int .i64) W Ao of.length of) (p : Int) (h0 : 0 ≤ p) (h1 : p < (of.length : Int)) :
    Calls Try.prog 97 #[.int .i64 p, .pointer (some ⟨gb, 0, none⟩)] W fun e w' => e = .returned (.bool (decide (rd of p ≥ 0))) ∧ w' = W := by
  obtain ⟨ad, eA, hx⟩ := Kd.at_int hr p h0 h1
  subst eA
  have p1 : (0 ≤ p) = True := eq_true h0
  have q1 : (p < (of.length : Int)) = True := eq_true h1
  clear hr
  go_enter Try.func97, Try.ntmps97
  go_wp2
  go_ret
  exact ⟨rfl, rfl⟩
def headF (preds : List (List Int)) (reached : List Bool) (of : List Int) : Nat → Nat → Int
 | 0, _ => -1
 | r + 1, i => if rdOf false reached (i : Int) = true ∧ rd of (i : Int) < 0 ∧ ((rdR preds (i : Int)).any fun p => decide (rd of p ≥ 0)) = true then (i : Int) else headF preds reached of r (i + 1)
theorem eg97 : ∀ args w, (callFunc 97 args).run Try.prog w = .ok (.enter 97 args) w :=
  Go.Proofs.enters_of Try.func97 (by kernel_rfl) rfl
theorem headF_step (preds : List (List Int)) (reached : List Bool) (of : List Int) (n m : Nat) (h : m < n) : headF preds reached of (n - m) m = if rdOf false reached (m : Int) = true ∧ rd of (m : Int) < 0 ∧ ((rdR preds (m : Int)).any fun p => decide (rd of p ≥ 0)) = true then (m : Int) else headF preds reached of (n - (m + 1)) (m + 1) := by
  rw [show n - m = (n - (m + 1)) + 1 by omega]
  rfl
set_option maxHeartbeats 8000000 in
set_option maxRecDepth 100000 in
theorem known_head (An : Option Addr) (cn n : Nat) (Ap : Option Addr) (cp : Nat) (preds : List (List Int)) (Ar : Option Addr) (cr : Nat) (reached : List Bool) (Ao : Option Addr) (co : Nat) (of : List Int) (w : World)
    (hP : Kd.C (Kd.slice 3 (Kd.int .i64)) w Ap preds.length preds) (hR : Kd.C Kd.bool w Ar reached.length reached) (hO : Kd.C (Kd.int .i64) w Ao of.length of)
    (e1 : preds.length = n) (e2 : reached.length = n) (e3 : of.length = n) (hn : n < 4611686018427387904) (hin : ∀ i : Nat, i < n → (rdR preds (i : Int)).length < 4611686018427387904 ∧ ∀ x ∈ rdR preds (i : Int), 0 ≤ x ∧ x < (of.length : Int)) :
    Calls Try.prog 82 #[.agg #[.slice An n cn, .slice Ap preds.length cp, .slice Ar reached.length cr], .slice Ao of.length co] w fun e w' => e = .returned (.int .i64 (headF preds reached of n 0)) ∧ Below w.heap.size w w' := by
  have hu := Try.underlying74
  have hmf : ∀ (fn : Fn) (first cap : Array Value) (w : World), (Instr.makeFunc fn first cap).run Try.prog w = .ok (.func fn first cap) w := fun _ _ _ _ => rfl
  have HP := Aside0.mk hP
  have HR := Aside0.mk hR
  have HO := Aside0.mk hO
  have HN := Aside0.mk hn
  have HI_ := Aside0.mk hin
  have E1 := Aside0.mk e1
  have E2 := Aside0.mk e2
  have E3 := Aside0.mk e3
  have H0 : Aside0 (headF preds reached of n 0 = headF preds reached of (n - 0) 0) := ⟨rfl⟩
  have hs : Aside0 (HI w w.heap.size (w.heap.size + 1) (.slice An n cn) (.slice Ap preds.length cp) (.slice Ar reached.length cr) (.slice Ao of.length co) ((w.alloc (.cells #[.slice An n cn, .slice Ap preds.length cp, .slice Ar reached.length cr] 74 (0, 0))).alloc (.cells #[.slice Ao of.length co] 27 (0, 0)))) := by
    refine ⟨((Below.refl _ _).alloc (Nat.le_refl _) _).alloc (by simp) _, ?_, heap_alloc2_new w _ _⟩
    rw [Below.heap_alloc _ _ _ (by simp)]
    exact heap_alloc_new w _
  clear hP hR hO hn hin e1 e2 e3
  go_enter Try.func82, Try.ntmps82
  have cc0 := (box3_ hs.out.2.1)
  obtain ⟨b0, b1, b2⟩ := cc0
  have b3 := (blk_cell hs.out.2.2 0).trans rfl
  go_wp2
  clear b0 b1 b2 b3
  go_loopw [5, 9] (fun v5 vi wr => ∃ (m : Nat), vi = .int .i64 (m : Int) ∧ m ≤ n ∧ Aside0 (headF preds reached of n 0 = headF preds reached of (n - m) m) ∧ Aside0 (HI w w.heap.size (w.heap.size + 1) (.slice An n cn) (.slice Ap preds.length cp) (.slice Ar reached.length cr) (.slice Ao of.length co) wr)) (fun _ vi _ => n - (intOf vi).toNat)
  case atStart => exact ⟨0, rfl, Nat.zero_le _, H0, hs⟩
  case round =>
    obtain ⟨m, rfl, hm, hO2, hW⟩ := hrel
    clear H0 hs
    by_cases hlt : m < n
    · have y0 : decide ((m : Int) < (n : Int)) = true := decide_eq_true (by omega)
      obtain ⟨b0, b1, b2⟩ := box3_ hW.out.2.1
      have b3 := (blk_cell hW.out.2.2 0).trans rfl
      obtain ⟨adr, eA, hxr⟩ := Kd.at_bool (Kd.C_below HR.out hW.out.1) (m : Int) (by omega) (by have := E2.out; omega)
      subst eA
      obtain ⟨ado, eA, hxo⟩ := Kd.at_int (Kd.C_below HO.out hW.out.1) (m : Int) (by omega) (by have := E3.out; omega)
      subst eA
      obtain ⟨adp, Aq, cq, eA, hxp, hlq, hCq⟩ := at_R (Kd.C_below HP.out hW.out.1) (m : Int) (by omega) (by have := E1.out; omega)
      subst eA
      rw [Int.toNat_natCast] at hxr hxo hxp
      have p0 : (0 ≤ (m : Int)) = True := eq_true (by omega)
      have q1 : (m < preds.length) = True := eq_true (by have := E1.out; omega)
      have q2 : (m < reached.length) = True := eq_true (by have := E2.out; omega)
      have q3 : (m < of.length) = True := eq_true (by have := E3.out; omega)
      have hst := hO2.out
      rw [headF_step _ _ _ _ _ hlt] at hst
      have hcall := contains_any 97 eg97 #[.pointer (some ⟨w.heap.size + 1, 0, none⟩)] (fun p => decide (rd of p ≥ 0)) Aq cq (rdR preds (m : Int)) wr hCq (HI_.out m hlt).1 (fun q x hx => by
        have hb := (HI_.out m hlt).2 x hx
        refine (head1_any (w.heap.size + 1) of _ co (wr.drewN q) b3 (Kd.C_drewN (Kd.C_below HO.out hW.out.1) q) x hb.1 hb.2).mono ?_
        rintro e w' ⟨rfl, rfl⟩
        exact ⟨rfl, q, rfl⟩)
      generalize rdOf false reached (m : Int) = bb at hxr hst
      generalize rd of (m : Int) = oo at hxo hst
      generalize ((rdR preds (m : Int)).any fun p => decide (rd of p ≥ 0)) = aa at hcall hst
      generalize (rdR preds (m : Int)).length = ll at hxp hlq hcall
      have HST := Aside0.mk hst
      have HLQ := Aside0.mk hlq
      clear hst hlq hCq hO2
      cases bb with
      | false =>
        have hres : Aside0 (headF preds reached of n 0 = headF preds reached of (n - (m + 1)) (m + 1)) := ⟨by rw [HST.out, if_neg (by simp)]⟩
        clear hcall
        go_wp2
        go_roundw
        case rel => exact ⟨m + 1, by rw [PdC.wnext m (by have := HN.out; omega)], hlt, hres, hW⟩
        case measure => rw [PdC.wnext m (by have := HN.out; omega)]; simp only [intOf, Int.toNat_natCast]; omega
      | true =>
        by_cases c2 : oo < 0
        · have y2 : decide (oo < 0) = true := decide_eq_true c2
          cases aa with
          | false =>
            have hres : Aside0 (headF preds reached of n 0 = headF preds reached of (n - (m + 1)) (m + 1)) := ⟨by rw [HST.out, if_neg (by simp)]⟩
            go_wp2_with (go_at_call 96; refine hcall.mono ?_; rintro e w' ⟨rfl, qq, rfl⟩)
            go_roundw
            case rel => exact ⟨m + 1, by rw [PdC.wnext m (by have := HN.out; omega)], hlt, hres, ⟨HI.drewN hW.out _⟩⟩
            case measure => rw [PdC.wnext m (by have := HN.out; omega)]; simp only [intOf, Int.toNat_natCast]; omega
          | true =>
            have hres : Aside0 (headF preds reached of n 0 = (m : Int)) := ⟨by rw [HST.out, if_pos ⟨rfl, c2, rfl⟩]⟩
            go_wp2_with (go_at_call 96; refine hcall.mono ?_; rintro e w' ⟨rfl, qq, rfl⟩)
            go_ret
            exact ⟨by rw [hres.out]; rfl, (HI.drewN hW.out _).1⟩
        · have y2 : decide (oo < 0) = false := decide_eq_false c2
          have hres : Aside0 (headF preds reached of n 0 = headF preds reached of (n - (m + 1)) (m + 1)) := ⟨by rw [HST.out, if_neg (fun h => c2 h.2.1)]⟩
          clear hcall
          go_wp2
          go_roundw
          case rel => exact ⟨m + 1, by rw [PdC.wnext m (by have := HN.out; omega)], hlt, hres, hW⟩
          case measure => rw [PdC.wnext m (by have := HN.out; omega)]; simp only [intOf, Int.toNat_natCast]; omega
    · obtain rfl : m = n := by omega
      have y0 : decide ((m : Int) < (m : Int)) = false := decide_eq_false (by omega)
      have hres : Aside0 (headF preds reached of m 0 = -1) := ⟨by rw [hO2.out, Nat.sub_self]; rfl⟩
      clear hlt hm hO2
      go_wp2
      go_ret
      exact ⟨by rw [hres.out]; rfl, hW.out.1⟩
end Go.Proofs.Ytfiffhcpgojkhaa
/- inter.known.interval by hand: its closure. No condition but that the place is one of the row. -/
namespace Go.Proofs.Ytfiffhcpgojkhaa
open Go.RowKit Go.Proofs.YtfiffhcpgojkhaaW.PrintWords Go.Proofs.YtfiffhcpgojkhaaW.PrintLast Go.Proofs.YtfiffhcpgojkhaaW.PrintMore
set_option linter.unusedVariables false
set_option linter.unusedSimpArgs false
theorem eg98 : ∀ args w, (callFunc 98 args).run Try.prog w = .ok (.enter 98 args) w :=
  Go.Proofs.enters_of Try.func98 (by kernel_rfl) rfl
set_option maxHeartbeats 4000000 in
theorem int1_any (gi go gm : Nat) (i mark : Int) (of : List Int) (Ao : Option Addr) (co : Nat) (W : World) (hi : W.cell? ⟨gi, 0, none⟩ = some (.int .i64 i)) (ho : W.cell? ⟨go, 0, none⟩ = some (.slice Ao of.length co)) (hm : W.cell? ⟨gm, 0, none⟩ = some (.int .i64 mark)) (hr : Kd.C (Kd.int .i64) W Ao of.length of) (p : Int) (h0 : 0 ≤ p) (h1 : p < (of.length : Int)) :
    Calls Try.prog 98 #[.int .i64 p, .pointer (some ⟨gi, 0, none⟩), .pointer (some ⟨go, 0, none⟩), .pointer (some ⟨gm, 0, none⟩)] W fun e w' => e = .returned (.bool (decide (p ≠ i ∧ rd of p ≠ mark))) ∧ ∃ q, w' = W.drewN q := by
  obtain ⟨ad, eA, hx⟩ := Kd.at_int hr p h0 h1
  subst eA
  have p1 : (0 ≤ p) = True := eq_true h0
  have q1 : (p < (of.length : Int)) = True := eq_true h1
  clear hr
  by_cases c : p = i
  · subst c
    have y0 : (p == p) = true := beq_iff_eq.mpr rfl
    go_enter Try.func98, Try.ntmps98
    go_wp2
    repeat (go_quiet (fail); try go_wp2)
    go_ret
    exact ⟨by simp, _, rfl⟩
  · have y0 : (p == i) = false := beq_eq_false_iff_ne.mpr c
    generalize rd of p = v at hx
    by_cases c2 : v = mark
    · subst c2
      have y1 : (v == v) = true := beq_iff_eq.mpr rfl
      go_enter Try.func98, Try.ntmps98
      go_wp2
      repeat (go_quiet (fail); try go_wp2)
      go_ret
      exact ⟨by simp, _, rfl⟩
    · have y1 : (v == mark) = false := beq_eq_false_iff_ne.mpr c2
      go_enter Try.func98, Try.ntmps98
      go_wp2
      repeat (go_quiet (fail); try go_wp2)
      go_ret
      exact ⟨by have z0 : (p != i) = true := bne_iff_ne.mpr c; have z1 : (v != mark) = true := bne_iff_ne.mpr c2; rw [decide_eq_true ⟨c, c2⟩, z1, z0]; rfl, _, rfl⟩
end Go.Proofs.Ytfiffhcpgojkhaa
/- inter.known.interval, as a plain function. No condition. -/
namespace Go.Proofs.Ytfiffhcpgojkhaa
open Go.RowKit Go.Proofs.YtfiffhcpgojkhaaW.PrintWords Go.Proofs.YtfiffhcpgojkhaaW.PrintLast Go.Proofs.YtfiffhcpgojkhaaW.PrintMore
set_option linter.unusedVariables false
/-- One pass over the places from i on: of, what was added, and whether any was. -/
def passF (preds : List (List Int)) (reached : List Bool) (mark : Int) : Nat → Nat → List Int → List Int → Bool → List Int × List Int × Bool
 | 0, _, of, rest, more => (of, rest, more)
 | r + 1, i, of, rest, more =>
   if i = 0 ∨ rd of (i : Int) ≥ 0 ∨ rdOf false reached (i : Int) = false then passF preds reached mark r (i + 1) of rest more
   else if ((rdR preds (i : Int)).any fun p => decide (p ≠ (i : Int) ∧ rd of p ≠ mark)) = true then passF preds reached mark r (i + 1) of rest more
   else passF preds reached mark r (i + 1) (of.set i mark) (rest ++ [(i : Int)]) true
/-- Passes until none is added. -/
def roundsF (preds : List (List Int)) (reached : List Bool) (mark : Int) (n : Nat) : Nat → List Int → List Int → Option (List Int × List Int)
 | 0, _, _ => none
 | k + 1, of, rest => if rest.length + n < 17592186044416 then (if (passF preds reached mark n 0 of rest false).2.2 = true then roundsF preds reached mark n k (passF preds reached mark n 0 of rest false).1 (passF preds reached mark n 0 of rest false).2.1 else some ((passF preds reached mark n 0 of rest false).1, (passF preds reached mark n 0 of rest false).2.1)) else none
theorem passF_len (preds : List (List Int)) (reached : List Bool) (mark : Int) : ∀ (r i : Nat) (of rest : List Int) (more : Bool), (passF preds reached mark r i of rest more).1.length = of.length := by
  intro r
  induction r with
  | zero => intro i of rest more; rfl
  | succ r ih =>
    intro i of rest more
    simp only [passF]
    split
    · exact ih _ _ _ _
    · split
      · exact ih _ _ _ _
      · rw [ih, List.length_set]
theorem passF_rest (preds : List (List Int)) (reached : List Bool) (mark : Int) : ∀ (r i : Nat) (of rest : List Int) (more : Bool), (passF preds reached mark r i of rest more).2.1.length ≤ rest.length + r := by
  intro r
  induction r with
  | zero => intro i of rest more; exact Nat.le_refl _
  | succ r ih =>
    intro i of rest more
    simp only [passF]
    split
    · have := ih (i + 1) of rest more; omega
    · split
      · have := ih (i + 1) of rest more; omega
      · have := ih (i + 1) (of.set i mark) (rest ++ [(i : Int)]) true
        rw [List.length_append, List.length_singleton] at this
        omega
theorem roundsF_mono (preds : List (List Int)) (reached : List Bool) (mark : Int) (n : Nat) : ∀ k of rest q, roundsF preds reached mark n k of rest = some q → roundsF preds reached mark n (k + 1) of rest = some q := by
  intro k
  induction k with
  | zero => intro of rest q h; simp [roundsF] at h
  | succ k ih =>
    intro of rest q h
    rw [roundsF] at h
    rw [roundsF]
    split at h
    rotate_left
    · cases h
    rename_i hg
    rw [if_pos hg]
    split at h
    · rename_i h0; rw [if_pos h0]; exact ih _ _ _ h
    · rename_i h0; rw [if_neg h0]; exact h
theorem roundsF_len (preds : List (List Int)) (reached : List Bool) (mark : Int) (n : Nat) : ∀ k of rest q, roundsF preds reached mark n k of rest = some q → q.1.length = of.length := by
  intro k
  induction k with
  | zero => intro of rest q h; simp [roundsF] at h
  | succ k ih =>
    intro of rest q h
    rw [roundsF] at h
    split at h
    rotate_left
    · cases h
    split at h
    · rw [ih _ _ _ h, passF_len]
    · injection h with h; rw [← h]; exact passF_len _ _ _ _ _ _ _ _
theorem passF_step (preds : List (List Int)) (reached : List Bool) (mark : Int) (n m : Nat) (h : m < n) (of rest : List Int) (more : Bool) : passF preds reached mark (n - m) m of rest more = (if m = 0 ∨ rd of (m : Int) ≥ 0 ∨ rdOf false reached (m : Int) = false then passF preds reached mark (n - (m + 1)) (m + 1) of rest more
   else if ((rdR preds (m : Int)).any fun p => decide (p ≠ (m : Int) ∧ rd of p ≠ mark)) = true then passF preds reached mark (n - (m + 1)) (m + 1) of rest more
   else passF preds reached mark (n - (m + 1)) (m + 1) (of.set m mark) (rest ++ [(m : Int)]) true) := by
  rw [show n - m = (n - (m + 1)) + 1 by omega]
  rfl
/-- The rows are of places. -/
def rowsIn (preds : List (List Int)) (n : Nat) : Bool := preds.all fun c => decide (c.length < 4611686018427387904) && c.all fun x => decide (0 ≤ x) && decide (x < (n : Int))
theorem rowsIn_at {preds : List (List Int)} {n : Nat} (h : rowsIn preds n = true) (i : Nat) : (rdR preds (i : Int)).length < 4611686018427387904 ∧ ∀ x ∈ rdR preds (i : Int), 0 ≤ x ∧ x < (n : Int) := by
  unfold rdR
  rw [Int.toNat_natCast, List.getD_eq_getElem?_getD]
  cases hc : preds[i]? with
  | none => simp
  | some c =>
    have h1 := List.all_eq_true.mp h c (List.mem_of_getElem? hc)
    rw [Bool.and_eq_true, decide_eq_true_eq] at h1
    refine ⟨h1.1, fun x hx => ?_⟩
    have h2 := List.all_eq_true.mp h1.2 x hx
    rw [Bool.and_eq_true, decide_eq_true_eq, decide_eq_true_eq] at h2
    exact h2
def inter_known_head.f (l0_0 : List (List Int)) (l0_1 : List (List Int)) (l0_2 : List Bool) (l1 : List Int) : Option Int := if l0_1.length = l0_0.length ∧ l0_2.length = l0_0.length ∧ l1.length = l0_0.length ∧ l0_0.length < 4611686018427387904 ∧ rowsIn l0_1 l0_0.length = true then some (headF l0_1 l0_2 l1 l0_0.length 0) else none
theorem inter_known_head.calls (A0_0 : Option Addr) (c0_0 : Nat) (l0_0 : List (List Int)) (A0_1 : Option Addr) (c0_1 : Nat) (l0_1 : List (List Int)) (A0_2 : Option Addr) (c0_2 : Nat) (l0_2 : List Bool) (A1 : Option Addr) (c1 : Nat) (l1 : List Int) (r : Int) (w : World) (hr0_0 : Kd.C (Kd.slice 3 (Kd.int .i64)) w A0_0 l0_0.length l0_0) (hc0_0 : l0_0.length ≤ c0_0) (hr0_1 : Kd.C (Kd.slice 3 (Kd.int .i64)) w A0_1 l0_1.length l0_1) (hc0_1 : l0_1.length ≤ c0_1) (hr0_2 : Kd.C Kd.bool w A0_2 l0_2.length l0_2) (hc0_2 : l0_2.length ≤ c0_2) (hr1 : Kd.C (Kd.int .i64) w A1 l1.length l1) (hc1 : l1.length ≤ c1) (h : inter_known_head.f l0_0 l0_1 l0_2 l1 = some r) :
    Calls Try.prog 82 #[.agg #[.slice A0_0 l0_0.length c0_0, .slice A0_1 l0_1.length c0_1, .slice A0_2 l0_2.length c0_2], .slice A1 l1.length c1] w fun e w' => e = .returned (.int .i64 r) ∧ Below w.heap.size w w' := by
  unfold inter_known_head.f at h
  split at h
  rotate_left
  · cases h
  rename_i hg
  injection h with h
  subst h
  exact known_head A0_0 c0_0 l0_0.length A0_1 c0_1 l0_1 A0_2 c0_2 l0_2 A1 c1 l1 w hr0_1 hr0_2 hr1 hg.1 hg.2.1 hg.2.2.1 hg.2.2.2.1 fun i _ => by
    have := rowsIn_at hg.2.2.2.2 i
    rw [hg.2.2.1]; exact this
def inter_known_interval.f (k : Nat) (l0_0 : List (List Int)) (l0_1 : List (List Int)) (l0_2 : List Bool) (a1 a2 : Int) (l3 : List Int) : Option (List Int × List Int) := if l0_1.length = l0_0.length ∧ l0_2.length = l0_0.length ∧ l3.length = l0_0.length ∧ l0_0.length < 4611686018427387904 ∧ rowsIn l0_1 l0_0.length = true ∧ 0 ≤ a1 ∧ a1 < (l0_0.length : Int) then (roundsF l0_1 l0_2 a2 l0_0.length k (l3.set a1.toNat a2) []).bind fun q => if q.2.length < 17592186044416 then some (a1 :: q.2.mergeSort (fun x y => decide (x ≤ y)), q.1) else none else none
theorem inter_known_interval.mono : ∀ a0 a1 a2 a3 a4 a5 k, LeO (inter_known_interval.f k a0 a1 a2 a3 a4 a5) (inter_known_interval.f (k + 1) a0 a1 a2 a3 a4 a5) := by
  intro a0 a1 a2 a3 a4 a5 k r h
  unfold inter_known_interval.f at h ⊢
  split at h
  rotate_left
  · cases h
  rename_i hg
  rw [if_pos hg]
  obtain ⟨q, hq, h⟩ := Option.bind_eq_some_iff.mp h
  rw [roundsF_mono _ _ _ _ _ _ _ _ hq]
  exact h
end Go.Proofs.Ytfiffhcpgojkhaa
/- inter.known.interval by hand. No condition but that the rows are as long as one another and of places. -/
namespace Go.Proofs.Ytfiffhcpgojkhaa
open Go.RowKit Go.Proofs.YtfiffhcpgojkhaaW.PrintWords Go.Proofs.YtfiffhcpgojkhaaW.PrintLast Go.Proofs.YtfiffhcpgojkhaaW.PrintMore
set_option linter.unusedVariables false
set_option linter.unusedSimpArgs false
/-- The world while an interval is found. -/
structure II (w0 w : World) (P0 : Nat → Prop) (s n : Nat) (a0 a1 a2 : Value) (mark : Int) (Ao : Option Addr) (co : Nat) (of : List Int) (vr : Value) (rest : List Int) (W : World) : Prop where
  below : Below w0.heap.size w0 W
  kept : Kept w W P0
  bk : W.heap[s]? = some (.cells #[a0, a1, a2] 74 (0, 0))
  bm : W.heap[s + 1]? = some (.cells #[.int .i64 mark] 3 (0, 0))
  bo : W.heap[s + 2]? = some (.cells #[.slice Ao n co] 27 (0, 0))
  ro : Kd.R (Kd.int .i64) 3 W w0.heap.size (fun k => P0 k ∧ k < s) (.slice Ao n co) of
  rr : Kd.R (Kd.int .i64) 3 W w0.heap.size (fun k => s + 3 ≤ k) vr rest
  sz : s + 3 ≤ W.heap.size
  s0 : w0.heap.size ≤ s
  sw : w.heap.size = s
theorem II.drewN {w0 w : World} {P0 : Nat → Prop} {s n : Nat} {a0 a1 a2 : Value} {mark : Int} {Ao : Option Addr} {co : Nat} {of : List Int} {vr : Value} {rest : List Int} {W : World} (h : II w0 w P0 s n a0 a1 a2 mark Ao co of vr rest W) (m : Nat) : II w0 w P0 s n a0 a1 a2 mark Ao co of vr rest (W.drewN m) :=
  ⟨pw_below_drewN h.below _, h.kept.drewN _, h.bk, h.bm, h.bo, Kd.R_drewN h.ro _, Kd.R_drewN h.rr _, h.sz, h.s0, h.sw⟩
theorem II.more {w0 w : World} {P0 : Nat → Prop} {s n : Nat} {a0 a1 a2 : Value} {mark : Int} {Ao : Option Addr} {co : Nat} {of : List Int} {vr : Value} {rest : List Int} {W W2 : World} (h : II w0 w P0 s n a0 a1 a2 mark Ao co of vr rest W) (hb : Below W.heap.size W W2) : II w0 w P0 s n a0 a1 a2 mark Ao co of vr rest W2 :=
  ⟨below_step h.below hb, h.kept.below hb, blk_below h.bk hb, blk_below h.bm hb, blk_below h.bo hb, Kd.R_below h.ro hb, Kd.R_below h.rr hb, Nat.le_trans h.sz hb.size, h.s0, h.sw⟩
/-- A row behind the boxes is made anew, or longer. -/
theorem II.row {w0 w : World} {P0 : Nat → Prop} {s n : Nat} {a0 a1 a2 : Value} {mark : Int} {Ao : Option Addr} {co : Nat} {of : List Int} {vr v1 : Value} {rest rest1 : List Int} {W W2 : World} (h : II w0 w P0 s n a0 a1 a2 mark Ao co of vr rest W) (hg : W.grownBy W2 vr.ownBlock) (hb : Below w0.heap.size w0 W2) (hr : Kd.R (Kd.int .i64) 3 W2 w0.heap.size (fun k => s + 3 ≤ k) v1 rest1) : II w0 w P0 s n a0 a1 a2 mark Ao co of v1 rest1 W2 := by
  have hk : ∀ k, vr.ownBlock = some k → s + 3 ≤ k := h.rr.1
  refine ⟨hb, Kept.of_grown hg h.kept (fun k e => .inr (by have := hk k e; have := h.sw; omega)), blk_grown h.bk hg ?_, blk_grown h.bm hg ?_, blk_grown h.bo hg ?_, Kd.R_grown h.ro hg ?_, hr, Nat.le_trans h.sz hg.size, h.s0, h.sw⟩
  · intro e; have := hk _ e.symm; omega
  · intro e; have := hk _ e.symm; omega
  · intro e; have := hk _ e.symm; omega
  · intro k hk2 e; have := hk _ e.symm; have := hk2.2; omega
theorem II.at_ {w0 w : World} {P0 : Nat → Prop} {s n : Nat} {a0 a1 a2 : Value} {mark : Int} {Ao : Option Addr} {co : Nat} {of : List Int} {vr : Value} {rest : List Int} {W : World} (h : II w0 w P0 s n a0 a1 a2 mark Ao co of vr rest W) (i : Nat) (h1 : i < n) :
    ∃ g, Ao = some ⟨g, 0, none⟩ ∧ g < s ∧ W.cell? ⟨g, i, none⟩ = some (.int .i64 (rd of (i : Int))) ∧ W.frozen? ⟨g, i, none⟩ = false ∧ ∀ v, II w0 w P0 s n a0 a1 a2 mark Ao co (of.set i v) vr rest (W.setCell ⟨g, i, none⟩ (.int .i64 v)) := by
  have hl := (Kd.R_reads' h.ro).1
  obtain ⟨g, cap, eo, gb, gl, cs, hc⟩ := Kd.R_form h.ro (by omega)
  have eA : Ao = some ⟨g, 0, none⟩ := by injection eo
  have hk := h.ro.1 g (by rw [eA]; rfl)
  have h4 := h.ro
  rw [eA] at h4
  obtain ⟨c1, c2⟩ := Kd.R_celln (0 : Int) h4 (i : Int) (by omega) (by omega)
  rw [Int.toNat_natCast] at c1 c2
  refine ⟨g, eA, hk.2, c1, c2, fun v => ?_⟩
  obtain ⟨hp, hg⟩ := Kd.R_putg h4 (i : Int) v
  rw [Int.toNat_natCast] at hp hg
  refine ⟨below_set h.below gb, h.kept.setCell (.inl hk.1) _, blk_grown h.bk hg ?_, blk_grown h.bm hg ?_, blk_grown h.bo hg ?_, ?_, Kd.R_grown h.rr hg ?_, Nat.le_trans h.sz hg.size, h.s0, h.sw⟩
  · intro e; injection e with e; omega
  · intro e; injection e with e; omega
  · intro e; injection e with e; omega
  · rw [eA]; exact hp
  · intro k hk2 e; injection e with e; have hk2' : s + 3 ≤ k := hk2; omega
theorem II.boxes {w0 w : World} {P0 : Nat → Prop} {s n : Nat} {a0 a1 a2 : Value} {mark : Int} {Ao : Option Addr} {co : Nat} {of : List Int} {vr : Value} {rest : List Int} {W : World} (h : II w0 w P0 s n a0 a1 a2 mark Ao co of vr rest W) : W.cell? ⟨s, 0, none⟩ = some a0 ∧ W.cell? ⟨s, 1, none⟩ = some a1 ∧ W.cell? ⟨s, 2, none⟩ = some a2 ∧ W.cell? ⟨s + 1, 0, none⟩ = some (.int .i64 mark) ∧ W.cell? ⟨s + 2, 0, none⟩ = some (.slice Ao n co) := by
  obtain ⟨b0, b1, b2⟩ := box3_ h.bk
  exact ⟨b0, b1, b2, (blk_cell h.bm 0).trans rfl, (blk_cell h.bo 0).trans rfl⟩
/-- Behind the sorting. -/
theorem II.sorted {w0 w : World} {P0 : Nat → Prop} {s n : Nat} {a0 a1 a2 : Value} {mark : Int} {Ao : Option Addr} {co : Nat} {of : List Int} {vr : Value} {rest r2 : List Int} {W W2 : World} (h : II w0 w P0 s n a0 a1 a2 mark Ao co of vr rest W) (hr : Kd.R (Kd.int .i64) 3 W2 w0.heap.size (fun k => (some k = vr.ownBlock ∨ W.heap.size ≤ k)) vr r2) (hb : Below w0.heap.size w0 W2) (hk : Kept W W2 (fun k => some k = vr.ownBlock)) :
    Kept w W2 P0 ∧ Kd.R (Kd.int .i64) 3 W2 w0.heap.size (fun k => P0 k ∧ k < s) (.slice Ao n co) of ∧ Kd.R (Kd.int .i64) 3 W2 w0.heap.size (fun k => s + 3 ≤ k) vr r2 ∧ s + 3 ≤ W2.heap.size := by
  have hlo : ∀ k, vr.ownBlock = some k → s + 3 ≤ k := h.rr.1
  refine ⟨h.kept.then_ hk (fun k e => .inr (by have := hlo k e.symm; have := h.sw; omega)), Kd.R_kept h.ro hk (fun k hk2 e => by have := hlo k e.symm; have := hk2.2; omega), Kd.R_reok rfl hr hlo, Nat.le_trans h.sz hk.1⟩
theorem II.call {w0 w : World} {P0 : Nat → Prop} {s n : Nat} {a0 a1 a2 : Value} {mark : Int} {Ao : Option Addr} {co : Nat} {of : List Int} {vr : Value} {rest : List Int} {W : World} (h : II w0 w P0 s n a0 a1 a2 mark Ao co of vr rest W) (gi m : Nat) (hi : W.cell? ⟨gi, 0, none⟩ = some (.int .i64 (m : Int))) (Aq : Option Addr) (cq : Nat) (l : List Int) (hC : Kd.C (Kd.int .i64) W Aq l.length l) (hl : l.length < 4611686018427387904) (hin : ∀ x ∈ l, 0 ≤ x ∧ x < (n : Int)) :
    Calls Try.prog 96 #[.slice Aq l.length cq, .func (.func 98) #[] #[.pointer (some ⟨gi, 0, none⟩), .pointer (some ⟨s + 2, 0, none⟩), .pointer (some ⟨s + 1, 0, none⟩)]] W fun e w' => e = .returned (.bool (l.any fun p => decide (p ≠ (m : Int) ∧ rd of p ≠ mark))) ∧ ∃ q, w' = W.drewN q := by
  have hn := (Kd.R_reads' h.ro).1
  subst hn
  obtain ⟨_, _, _, b3, b4⟩ := h.boxes
  refine contains_any 98 eg98 _ (fun p => decide (p ≠ (m : Int) ∧ rd of p ≠ mark)) Aq cq l W hC hl (fun q x hx => ?_)
  have hb := hin x hx
  refine (int1_any gi (s + 2) (s + 1) (m : Int) mark of Ao co (W.drewN q) hi b4 b3 (Kd.C_drewN (Kd.R_reads' h.ro).2.2 q) x hb.1 hb.2).mono ?_
  rintro e w' ⟨rfl, q2, rfl⟩
  exact ⟨rfl, _, World.drewN_drewN _ _ _⟩
/-- The place's box is made. -/
theorem inter_step {w0 w : World} {P0 : Nat → Prop} {s n : Nat} {a0 a1 a2 : Value} {mark : Int} {g : Nat} {co : Nat} {of : List Int} {vr : Value} {rest : List Int} {W w5 w6 : World} {gi m : Nat} {adp adr : Addr} {preds : List (List Int)} {reached : List Bool} (h : II w0 w P0 s n a0 a1 a2 mark (some ⟨g, 0, none⟩) co of vr rest W) (hp : ∀ W_, Kept w W_ P0 → Kd.C (Kd.slice 3 (Kd.int .i64)) W_ (some adp) n preds) (hr : ∀ W_, Kept w W_ P0 → Kd.C Kd.bool W_ (some adr) n reached)
    (hgi : gi = W.heap.size) (hbox : w5.heap[gi]? = some (.cells #[.int .i64 0] 3 (0, 0))) (hb : Below W.heap.size W w5) (hw : w6 = w5.setCell ⟨gi, 0, none⟩ (.int .i64 (m : Int))) (hm : m < n) :
    II w0 w P0 s n a0 a1 a2 mark (some ⟨g, 0, none⟩) co of vr rest w6 ∧ w6.cell? ⟨gi, 0, none⟩ = some (.int .i64 (m : Int)) ∧ w6.cell? ⟨s, 0, none⟩ = some a0 ∧ w6.cell? ⟨s, 1, none⟩ = some a1 ∧ w6.cell? ⟨s, 2, none⟩ = some a2 ∧ w6.cell? ⟨s + 1, 0, none⟩ = some (.int .i64 mark) ∧ w6.cell? ⟨s + 2, 0, none⟩ = some (.slice (some ⟨g, 0, none⟩) n co) ∧ w6.cell? ⟨g, m, none⟩ = some (.int .i64 (rd of (m : Int))) ∧ w6.frozen? ⟨g, m, none⟩ = false ∧ w6.cell? (adr.add m) = some (.bool (rdOf false reached (m : Int))) ∧ ∃ (Aq : Option Addr) (cq : Nat), w6.cell? (adp.add m) = some (.slice Aq (rdR preds (m : Int)).length cq) ∧ Kd.C (Kd.int .i64) w6 Aq (rdR preds (m : Int)).length (rdR preds (m : Int)) ∧ g < gi := by
  have hb6 : Below W.heap.size W w6 := by rw [hw]; exact below_set hb (by rw [hgi]; exact Nat.le_refl _)
  have h6 := h.more hb6
  obtain ⟨b0, b1, b2, b3, b4⟩ := h6.boxes
  obtain ⟨g2, e, hg2, hx, hf, _⟩ := h6.at_ m hm
  obtain rfl : g = g2 := by injection e with e; injection e
  have hbi : w6.heap[gi]? = some (.cells #[.int .i64 (m : Int)] 3 (0, 0)) := by rw [hw]; exact blk_put hbox 0 (.int .i64 (m : Int)) rfl
  obtain ⟨ad1, e1, hx1⟩ := Kd.at_bool (hr w6 h6.kept) (m : Int) (by omega) (by omega)
  obtain ⟨ad2, Aq, cq, e2, hx2, _, hC⟩ := at_R (hp w6 h6.kept) (m : Int) (by omega) (by omega)
  injection e1 with e1
  subst e1
  injection e2 with e2
  subst e2
  rw [Int.toNat_natCast] at hx1 hx2
  exact ⟨h6, (blk_cell hbi 0).trans rfl, b0, b1, b2, b3, b4, hx, hf, hx1, Aq, cq, hx2, hC, by have := h.sz; omega⟩
/-- A place is marked. -/
theorem inter_put {w0 w : World} {P0 : Nat → Prop} {s n : Nat} {a0 a1 a2 : Value} {mark : Int} {g : Nat} {co : Nat} {of : List Int} {vr : Value} {rest : List Int} {W w8 : World} {m : Nat} (h : II w0 w P0 s n a0 a1 a2 mark (some ⟨g, 0, none⟩) co of vr rest W) (hm : m < n) (v : Int) (gi : Nat) (u : Value) (hg : g < gi) (hi : W.cell? ⟨gi, 0, none⟩ = some u) (hw : w8 = W.setCell ⟨g, m, none⟩ (.int .i64 v)) :
    II w0 w P0 s n a0 a1 a2 mark (some ⟨g, 0, none⟩) co (of.set m v) vr rest w8 ∧ w8.cell? ⟨gi, 0, none⟩ = some u ∧ w8.cell? ⟨s + 1, 0, none⟩ = some (.int .i64 mark) ∧ w8.cell? ⟨s + 2, 0, none⟩ = some (.slice (some ⟨g, 0, none⟩) n co) := by
  obtain ⟨g2, e, hg2, hx, hf, hp⟩ := h.at_ m hm
  obtain rfl : g = g2 := by injection e with e; injection e
  have h8 := hp v
  rw [← hw] at h8
  obtain ⟨b0, b1, b2, b3, b4⟩ := h8.boxes
  refine ⟨h8, ?_, b3, b4⟩
  rw [hw, World.cell?_of_block (w := W) (Below.heap_setCell _ _ _ _ (by show gi ≠ g; omega))]
  exact hi
end Go.Proofs.Ytfiffhcpgojkhaa
/- inter.known.interval by hand: the walk. No condition but that the rows are as long as one another and of places. -/
namespace Go.Proofs.Ytfiffhcpgojkhaa
open Go.RowKit Go.Proofs.YtfiffhcpgojkhaaW.PrintWords Go.Proofs.YtfiffhcpgojkhaaW.PrintLast Go.Proofs.YtfiffhcpgojkhaaW.PrintMore
set_option linter.unusedVariables false
set_option linter.unusedSimpArgs false
set_option maxHeartbeats 16000000 in
set_option maxRecDepth 100000 in
theorem inter_known_interval.calls (k : Nat) (A0_0 : Option Addr) (c0_0 : Nat) (l0_0 : List (List Int)) (A0_1 : Option Addr) (c0_1 : Nat) (l0_1 : List (List Int)) (A0_2 : Option Addr) (c0_2 : Nat) (l0_2 : List Bool) (x1 x2 : Int) (P0_ : Nat → Prop) (u9000_ : Value) (l3 : List Int) (r1 r2 : List Int) (w0 w : World) (hB : Below w0.heap.size w0 w)
    (hr0_0 : ∀ W_, Kept w W_ P0_ → Kd.C (Kd.slice 3 (Kd.int .i64)) W_ A0_0 l0_0.length l0_0) (hc0_0 : l0_0.length ≤ c0_0) (hr0_1 : ∀ W_, Kept w W_ P0_ → Kd.C (Kd.slice 3 (Kd.int .i64)) W_ A0_1 l0_1.length l0_1) (hc0_1 : l0_1.length ≤ c0_1) (hr0_2 : ∀ W_, Kept w W_ P0_ → Kd.C Kd.bool W_ A0_2 l0_2.length l0_2) (hc0_2 : l0_2.length ≤ c0_2)
    (ho3 : Kd.R (Kd.int .i64) 3 w w0.heap.size P0_ u9000_ l3) (h : inter_known_interval.f k l0_0 l0_1 l0_2 x1 x2 l3 = some (r1, r2)) :
    Calls Try.prog 83 #[.agg #[.slice A0_0 l0_0.length c0_0, .slice A0_1 l0_1.length c0_1, .slice A0_2 l0_2.length c0_2], .int .i64 x1, .int .i64 x2, u9000_] w fun e w' => ∃ v0_ : Value, e = .returned v0_ ∧ Kd.R (Kd.int .i64) 3 w' w0.heap.size (fun k_ => (P0_ k_ ∨ w.heap.size ≤ k_) ∧ some k_ ≠ u9000_.ownBlock) v0_ r1 ∧ Kd.R (Kd.int .i64) 3 w' w0.heap.size (fun k_ => P0_ k_ ∨ w.heap.size ≤ k_) u9000_ r2 ∧ Below w0.heap.size w0 w' ∧ Kept w w' (fun k_ => P0_ k_) := by
  unfold inter_known_interval.f at h
  split at h
  rotate_left
  · cases h
  rename_i hg
  obtain ⟨⟨ofR, reR⟩, hq, h⟩ := Option.bind_eq_some_iff.mp h
  simp only at h
  split at h
  rotate_left
  · cases h
  rename_i hbg
  injection h with h
  injection h with h1 h2
  subst h2
  obtain ⟨e1, e2, e3, hn, hin, hh0, hh1⟩ := hg
  obtain ⟨hd, rfl⟩ : ∃ m : Nat, x1 = (m : Int) := ⟨x1.toNat, by omega⟩
  rw [Int.toNat_natCast] at hq
  obtain ⟨Ao, co, eo⟩ := Kd.R_slice ho3
  subst eo
  obtain ⟨n, hnn⟩ : ∃ n, n = l0_0.length := ⟨_, rfl⟩
  rw [← hnn] at hr0_0 hc0_0 e1 e2 e3 hn hin hh1 hq ⊢
  rw [e3] at ho3 ⊢
  rw [e1] at hr0_1 hc0_1 ⊢
  rw [e2] at hr0_2 hc0_2 ⊢
  have hlt : ∀ k_, (Value.slice Ao n co).ownBlock = some k_ → k_ < w.heap.size := DomA.ownLt ho3
  have ho4 := Kd.R_reok (ok := fun k_ => P0_ k_ ∧ k_ < w.heap.size) rfl ho3 (fun k_ e => ⟨ho3.1 k_ e, hlt k_ e⟩)
  obtain ⟨s, hs⟩ : ∃ s, s = w.heap.size := ⟨_, rfl⟩
  have hu := Try.underlying74
  have hmf : ∀ (fn : Fn) (first cap : Array Value) (w : World), (Instr.makeFunc fn first cap).run Try.prog w = .ok (.func fn first cap) w := fun _ _ _ _ => rfl
  have h3 : II w0 w P0_ s n (.slice A0_0 n c0_0) (.slice A0_1 n c0_1) (.slice A0_2 n c0_2) x2 Ao co l3 (.slice none 0 0) [] (((w.alloc (.cells #[.slice A0_0 n c0_0, .slice A0_1 n c0_1, .slice A0_2 n c0_2] 74 (0, 0))).alloc (.cells #[.int .i64 x2] 3 (0, 0))).alloc (.cells #[.slice Ao n co] 27 (0, 0))) := by
    have hb3 : Below w.heap.size w (((w.alloc (.cells #[.slice A0_0 n c0_0, .slice A0_1 n c0_1, .slice A0_2 n c0_2] 74 (0, 0))).alloc (.cells #[.int .i64 x2] 3 (0, 0))).alloc (.cells #[.slice Ao n co] 27 (0, 0))) := below_alloc (below_alloc (below_alloc (Below.refl _ _) _) _) _
    refine ⟨below_step hB hb3, Kept.of_below hb3 _, ?_, ?_, ?_, by rw [hs]; exact Kd.R_below ho4 hb3, Kd.R_nil _ _ _ _ _, by simp [hs], by rw [hs]; exact below_size hB, hs.symm⟩
    · rw [Below.heap_alloc _ _ _ (by simp [hs]; omega), Below.heap_alloc _ _ _ (by simp [hs]), hs]; exact heap_alloc_new w _
    · rw [Below.heap_alloc _ _ _ (by simp [hs]), hs]; exact heap_alloc2_new w _ _
    · have := heap_alloc_new ((w.alloc (.cells #[.slice A0_0 n c0_0, .slice A0_1 n c0_1, .slice A0_2 n c0_2] 74 (0, 0))).alloc (.cells #[.int .i64 x2] 3 (0, 0))) (.cells #[.slice Ao n co] 27 (0, 0))
      simpa [hs] using this
  obtain ⟨g, eA, hgs, hx, hf, hput⟩ := h3.at_ hd (by omega)
  subst eA
  obtain ⟨b0, b1, b2, b3, b4⟩ := h3.boxes
  have HS := Aside0.mk (hput x2)
  have p0 : (0 ≤ (hd : Int)) = True := eq_true (by omega)
  have q1 : (hd < n) = True := eq_true (by omega)
  have HQ := Aside0.mk hq
  have HN := Aside0.mk hn
  have HIN := Aside0.mk hin
  have HP0 := Aside0.mk hr0_0
  have HP1 := Aside0.mk hr0_1
  have HP2 := Aside0.mk hr0_2
  have HBG := Aside0.mk hbg
  have HB := Aside0.mk hB
  have H1 := Aside0.mk h1
  have E1 := Aside0.mk e1
  have E2 := Aside0.mk e2
  have E3 := Aside0.mk e3
  subst hs
  clear h3 hput hq hn hin hr0_0 hr0_1 hr0_2 hbg hB h1 e1 e2 e3 hlt ho3 ho4 hh0 hh1 hc0_0 hc0_1 hc0_2 hnn
  go_enter Try.func83, Try.ntmps83
  go_wp2
  go_loopg [9, 10] k (fun kq v9 v10 wr => ∃ (f : Nat) (of rest : List Int), v10 = .bool (DomA.flag f) ∧ Aside0 ((DomA.flag f = true ∧ roundsF l0_1 l0_2 x2 n kq of rest = some (ofR, reR)) ∨ (DomA.flag f = false ∧ ofR = of ∧ reR = rest)) ∧ Aside0 (II w0 w P0_ w.heap.size n (.slice A0_0 n c0_0) (.slice A0_1 n c0_1) (.slice A0_2 n c0_2) x2 (some ⟨g, 0, none⟩) co of v9 rest wr))
  case atStart => exact ⟨1, _, _, rfl, ⟨.inl ⟨rfl, HQ.out⟩⟩, HS⟩
  case round =>
    obtain ⟨f, of, rest, rfl, hO, hW⟩ := hrel
    clear HS HQ hf hx b0 b1 b2 b3 b4
    cases hfl : DomA.flag f with
    | false =>
      rw [hfl] at hO
      have hO2 : ofR = of ∧ reR = rest := by
        rcases hO.out with h | h
        · exact absurd h.1 (by decide)
        · exact h.2
      obtain ⟨rfl, rfl⟩ := hO2
      obtain ⟨Ar, cr, er⟩ := Kd.R_slice hW.out.rr
      subst er
      have A1 : slices_Sort_int_int.f reR = some (reR.mergeSort fun x y => decide (x ≤ y)) := by
        unfold slices_Sort_int_int.f
        rw [if_pos (by have := HBG.out; omega)]
      have HA1 := Aside0.mk A1
      clear hO A1 hfl
      go_wp2_with (first
        | ((with_reducible refine gate_callee (f := 64) rfl ?_); refine goesL_ (some 58) rfl rfl Try.func64 (by kernel_rfl) rfl #[.slice Ar reR.length cr] rfl (by (try simp only [List.map_toArray, List.map_cons, List.map_nil]); first | done | rfl) ?_; (with_reducible refine (slices_Sort_int_int.calls (fun k_ => some k_ = (.slice Ar reR.length cr : Value).ownBlock) (.slice Ar reR.length cr) reR _ w0 _ ?side1 ?side2 HA1.out).mono ?_); (case side1 => exact hW.out.below); (case side2 => exact Kd.R_tight rfl hW.out.rr); rintro e w5 ⟨rfl, hy0, hb5, hk5⟩; refine ⟨_, rfl, ?_⟩; obtain ⟨k5, o5, r5, s5⟩ := hW.out.sorted hy0 hb5 hk5; have K5 := Aside0.mk k5; have O5 := Aside0.mk o5; have R5 := Aside0.mk r5; have S5 := Aside0.mk s5; have B5 := Aside0.mk hb5; clear hy0 hb5 hk5 k5 o5 r5 s5)
        | ((with_reducible refine gate_dst (N := 60) rfl ?_); refine Kd.R_lit (Kd.int .i64) (w0 := w5) w5.heap.size 3 ?hg (N := 60) ?hd (xs := ([(hd : Int)] : List Int)) (inner := [.int .i64 (hd : Int)]) (ok := fun _ => True) (okp := fun _ => True) ?hr ?hp (fun _ hk => hk) trivial (Below.refl _ _) (Nat.le_refl _) (by simp) ?_; (case hd => rfl); (case hg => rfl); (case hr => first | (go_simp; done) | (go_simp; rfl)); (case hp => exact (Reps.one (show Kd.M (Kd.int .i64) _ _ _ (hd : Int) [.int .i64 (hd : Int)] from rfl) (Reps.none _ _))); intro v6 w6 ho6 hb6 hg6 hnew6; have O6 := Aside0.mk ho6; have B6 := Aside0.mk hb6; have R6 := Aside0.mk (Kd.R_below R5.out hb6); clear ho6 hb6 hg6 hnew6)
        | ((with_reducible refine gate_builtin (b := .append) (xs := #[.tmp 60, .tmp 61]) rfl ?_); at_builtin; refine Kd.R_append_rows (Kd.int .i64) (w0 := w5) w5.heap.size rfl (.tmp 60) (.tmp 61) 27 3 (.int .i64 0) 8 rfl Try.underlying27 DomA.infoI rfl (by decide) (by omega) v6 [(hd : Int)] (reR.mergeSort fun x y => decide (x ≤ y)) _ _ _ (fun _ => True) (fun _ => False) rfl rfl ?aO ?aR (fun _ _ h => h) (fun _ h => h.elim) ?aF ?aB ?aS ?aL ?_; (case aR => exact (Kd.R_reads' R6.out).1 ▸ (Kd.R_reads' R6.out).2.2); (case aB => exact B6.out); (case aF => exact (fun _ _ => trivial)); (case aO => exact O6.out); (case aS => exact below_size B6.out); (case aL => have := HBG.out; simp only [List.length_singleton]; omega); intro v7 w7 ho hb hg hat; have R7 := Aside0.mk ho; have B7 := Aside0.mk hb; clear ho hb hg hat))
      go_ret
      refine ⟨v7, rfl, ?_, ?_, below_step B5.out B7.out, K5.out.below B7.out⟩
      · rw [← H1.out]
        exact Kd.R_lower (Kd.R_mono (Kd.R_bound R7.out) (fun k_ hk => ⟨.inr (by have := hk.2.1; have := S5.out; omega), fun e => by have e2 : k_ = g := (by injection e); have := hk.2.1; have := S5.out; omega⟩)) (below_size B5.out)
      · exact Kd.R_mono (Kd.R_below O5.out B7.out) (fun k_ hk => .inl hk.1)
    | true =>
      rw [hfl] at hO
      cases gk with
      | zero =>
        rcases hO.out with h | h
        · exact absurd h.2 (by simp [roundsF])
        · exact absurd h.1 (by decide)
      | succ k1 =>
      have hr : roundsF l0_1 l0_2 x2 n (k1 + 1) of rest = some (ofR, reR) := by
        rcases hO.out with h | h
        · exact h.2
        · exact absurd h.1 (by decide)
      rw [roundsF] at hr
      split at hr
      rotate_left
      · cases hr
      rename_i hgd
      have HR := Aside0.mk hr
      have HGD := Aside0.mk hgd
      have P00 : Aside0 (passF l0_1 l0_2 x2 n 0 of rest false = passF l0_1 l0_2 x2 (n - 0) 0 of rest (DomA.flag 0)) := ⟨rfl⟩
      have RL : Aside0 (rest.length ≤ rest.length + 0) := ⟨Nat.le_refl _⟩
      clear hr hgd hO hfl
      obtain ⟨b0, b1, b2, b3, b4⟩ := hW.out.boxes
      go_wp2
      clear b0 b1 b2 b3 b4
      go_loopw [9, 10, 20] (fun v9 v10 v20 w4 => ∃ (m f2 : Nat) (of2 rest2 : List Int), v20 = .int .i64 (m : Int) ∧ v10 = .bool (DomA.flag f2) ∧ m ≤ n ∧ Aside0 (passF l0_1 l0_2 x2 n 0 of rest false = passF l0_1 l0_2 x2 (n - m) m of2 rest2 (DomA.flag f2)) ∧ Aside0 (rest2.length ≤ rest.length + m) ∧ Aside0 (II w0 w P0_ w.heap.size n (.slice A0_0 n c0_0) (.slice A0_1 n c0_1) (.slice A0_2 n c0_2) x2 (some ⟨g, 0, none⟩) co of2 v9 rest2 w4)) (fun _ _ vi _ => n - (intOf vi).toNat)
      case atStart => exact ⟨0, 0, _, _, rfl, rfl, Nat.zero_le _, P00, RL, hW⟩
      case round =>
        obtain ⟨m, f2, of2, rest2, rfl, rfl, hm, hP, hL, hI⟩ := hrel
        clear P00 RL hW
        by_cases hlt : m < n
        · have hst := hP.out
          rw [passF_step _ _ _ _ _ hlt] at hst
          have HST := Aside0.mk hst
          obtain ⟨Av, cv, ev⟩ := Kd.R_slice hI.out.rr
          subst ev
          have y0 : decide ((m : Int) < (n : Int)) = true := decide_eq_true (by omega)
          have p1 : (0 ≤ (m : Int)) = True := eq_true (by omega)
          have q2 : (m < n) = True := eq_true hlt
          have LT := hlt
          clear hst hP
          obtain ⟨adr, eAr, _⟩ := Kd.at_bool (HP2.out wr hI.out.kept) (m : Int) (by omega) (by omega)
          subst eAr
          obtain ⟨adp, _, _, eAp, _⟩ := at_R (HP1.out wr hI.out.kept) (m : Int) (by omega) (by omega)
          subst eAp
          by_cases c0 : m = 0
          · have y1 : ((m : Int) == 0) = true := beq_iff_eq.mpr (by omega)
            have hres : Aside0 (passF l0_1 l0_2 x2 n 0 of rest false = passF l0_1 l0_2 x2 (n - (m + 1)) (m + 1) of2 rest2 (DomA.flag f2)) := ⟨by rw [HST.out, if_pos (.inl c0)]⟩
            go_wp2_with (first | ((with_reducible refine gate_dst (N := 11) rfl ?_); refine box_event ?hg (N := 11) ?hd (cs := #[.int .i64 0]) (t := 3) ?hr ?_; (case hd => rfl); (case hg => rfl); (case hr => first | (go_simp; done) | (go_simp; rfl)); intro gi hgi w5 hbox hb5; have m1 : w5.cell? ⟨gi, 0, none⟩ = some (.int .i64 0) := (blk_cell hbox 0).trans rfl; have m2 := blk_frozen hbox 0; have GI := Aside0.mk hgi; have BX := Aside0.mk hbox; have B5 := Aside0.mk hb5; clear hbox hb5 hgi) | ((with_reducible refine gate_store (t := 3) (p := 11) rfl ?_); refine store_event (t := 3) (p := 11) (v := ?vo) (w1 := (w5.setCell ⟨gi, 0, none⟩ (.int .i64 (m : Int)))) ?hg ?ho ?hn ?hr ?_; (case ho => rfl); (case hg => rfl); (case hn => rfl); (case hr => first | (go_simp; done) | (go_simp; rfl)); intro w6 hw; have X6 := inter_step hI.out HP1.out HP2.out GI.out BX.out B5.out hw hlt; clear m1 m2 hw GI BX B5; obtain ⟨I6, bi, b0, b1, b2, b3, b4, hxo, hfo, hxr, Aq, cq, hxp, hCq, hgi⟩ := X6; have H6 := Aside0.mk I6; have HC6 := Aside0.mk hCq; have HG6 := Aside0.mk hgi; clear I6 hCq hgi))
            go_roundw
            case rel => exact ⟨m + 1, f2, of2, rest2, by first | rw [PdC.wnext m (by have := HN.out; omega)] | (subst c0; rfl), rfl, hlt, hres, ⟨by have := hL.out; omega⟩, H6⟩
            case measure => (try rw [PdC.wnext m (by have := HN.out; omega)]); simp only [intOf, Int.toNat_natCast]; omega
          · have y1 : ((m : Int) == 0) = false := beq_eq_false_iff_ne.mpr (by omega)
            by_cases c1 : rd of2 (m : Int) ≥ 0
            · have y2 : decide (0 ≤ rd of2 (m : Int)) = true := decide_eq_true c1
              have hres : Aside0 (passF l0_1 l0_2 x2 n 0 of rest false = passF l0_1 l0_2 x2 (n - (m + 1)) (m + 1) of2 rest2 (DomA.flag f2)) := ⟨by rw [HST.out, if_pos (.inr (.inl c1))]⟩
              have oo0 := rd of2 (m : Int)
              go_wp2_with (first | ((with_reducible refine gate_dst (N := 11) rfl ?_); refine box_event ?hg (N := 11) ?hd (cs := #[.int .i64 0]) (t := 3) ?hr ?_; (case hd => rfl); (case hg => rfl); (case hr => first | (go_simp; done) | (go_simp; rfl)); intro gi hgi w5 hbox hb5; have m1 : w5.cell? ⟨gi, 0, none⟩ = some (.int .i64 0) := (blk_cell hbox 0).trans rfl; have m2 := blk_frozen hbox 0; have GI := Aside0.mk hgi; have BX := Aside0.mk hbox; have B5 := Aside0.mk hb5; clear hbox hb5 hgi) | ((with_reducible refine gate_store (t := 3) (p := 11) rfl ?_); refine store_event (t := 3) (p := 11) (v := ?vo) (w1 := (w5.setCell ⟨gi, 0, none⟩ (.int .i64 (m : Int)))) ?hg ?ho ?hn ?hr ?_; (case ho => rfl); (case hg => rfl); (case hn => rfl); (case hr => first | (go_simp; done) | (go_simp; rfl)); intro w6 hw; have X6 := inter_step hI.out HP1.out HP2.out GI.out BX.out B5.out hw hlt; clear m1 m2 hw GI BX B5; obtain ⟨I6, bi, b0, b1, b2, b3, b4, hxo, hfo, hxr, Aq, cq, hxp, hCq, hgi⟩ := X6; have H6 := Aside0.mk I6; have HC6 := Aside0.mk hCq; have HG6 := Aside0.mk hgi; clear I6 hCq hgi))
              go_roundw
              case rel => exact ⟨m + 1, f2, of2, rest2, by first | rw [PdC.wnext m (by have := HN.out; omega)] | (subst c0; rfl), rfl, hlt, hres, ⟨by have := hL.out; omega⟩, H6⟩
              case measure => (try rw [PdC.wnext m (by have := HN.out; omega)]); simp only [intOf, Int.toNat_natCast]; omega
            · have y2 : decide (0 ≤ rd of2 (m : Int)) = false := decide_eq_false c1
              cases c2 : rdOf false l0_2 (m : Int) with
              | false =>
                have hres : Aside0 (passF l0_1 l0_2 x2 n 0 of rest false = passF l0_1 l0_2 x2 (n - (m + 1)) (m + 1) of2 rest2 (DomA.flag f2)) := ⟨by rw [HST.out, if_pos (.inr (.inr c2))]⟩
                go_wp2_with (first | ((with_reducible refine gate_dst (N := 11) rfl ?_); refine box_event ?hg (N := 11) ?hd (cs := #[.int .i64 0]) (t := 3) ?hr ?_; (case hd => rfl); (case hg => rfl); (case hr => first | (go_simp; done) | (go_simp; rfl)); intro gi hgi w5 hbox hb5; have m1 : w5.cell? ⟨gi, 0, none⟩ = some (.int .i64 0) := (blk_cell hbox 0).trans rfl; have m2 := blk_frozen hbox 0; have GI := Aside0.mk hgi; have BX := Aside0.mk hbox; have B5 := Aside0.mk hb5; clear hbox hb5 hgi) | ((with_reducible refine gate_store (t := 3) (p := 11) rfl ?_); refine store_event (t := 3) (p := 11) (v := ?vo) (w1 := (w5.setCell ⟨gi, 0, none⟩ (.int .i64 (m : Int)))) ?hg ?ho ?hn ?hr ?_; (case ho => rfl); (case hg => rfl); (case hn => rfl); (case hr => first | (go_simp; done) | (go_simp; rfl)); intro w6 hw; have X6 := inter_step hI.out HP1.out HP2.out GI.out BX.out B5.out hw hlt; clear m1 m2 hw GI BX B5; obtain ⟨I6, bi, b0, b1, b2, b3, b4, hxo, hfo, hxr, Aq, cq, hxp, hCq, hgi⟩ := X6; have H6 := Aside0.mk I6; have HC6 := Aside0.mk hCq; have HG6 := Aside0.mk hgi; clear I6 hCq hgi; rw [c2] at hxr))
                go_roundw
                case rel => exact ⟨m + 1, f2, of2, rest2, by first | rw [PdC.wnext m (by have := HN.out; omega)] | (subst c0; rfl), rfl, hlt, hres, ⟨by have := hL.out; omega⟩, H6⟩
                case measure => (try rw [PdC.wnext m (by have := HN.out; omega)]); simp only [intOf, Int.toNat_natCast]; omega
              | true =>
                cases hz : (rdR l0_1 (m : Int)).any fun p => decide (p ≠ (m : Int) ∧ rd of2 p ≠ x2) with
                | true =>
                  have HZ := Aside0.mk hz
                  have hres : Aside0 (passF l0_1 l0_2 x2 n 0 of rest false = passF l0_1 l0_2 x2 (n - (m + 1)) (m + 1) of2 rest2 (DomA.flag f2)) := ⟨by rw [HST.out, if_neg (by rw [c2]; simp; omega), if_pos hz]⟩
                  clear hz
                  go_wp2_with (first | ((with_reducible refine gate_dst (N := 11) rfl ?_); refine box_event ?hg (N := 11) ?hd (cs := #[.int .i64 0]) (t := 3) ?hr ?_; (case hd => rfl); (case hg => rfl); (case hr => first | (go_simp; done) | (go_simp; rfl)); intro gi hgi w5 hbox hb5; have m1 : w5.cell? ⟨gi, 0, none⟩ = some (.int .i64 0) := (blk_cell hbox 0).trans rfl; have m2 := blk_frozen hbox 0; have GI := Aside0.mk hgi; have BX := Aside0.mk hbox; have B5 := Aside0.mk hb5; clear hbox hb5 hgi) | ((with_reducible refine gate_store (t := 3) (p := 11) rfl ?_); refine store_event (t := 3) (p := 11) (v := ?vo) (w1 := (w5.setCell ⟨gi, 0, none⟩ (.int .i64 (m : Int)))) ?hg ?ho ?hn ?hr ?_; (case ho => rfl); (case hg => rfl); (case hn => rfl); (case hr => first | (go_simp; done) | (go_simp; rfl)); intro w6 hw; have X6 := inter_step hI.out HP1.out HP2.out GI.out BX.out B5.out hw hlt; clear m1 m2 hw GI BX B5; obtain ⟨I6, bi, b0, b1, b2, b3, b4, hxo, hfo, hxr, Aq, cq, hxp, hCq, hgi⟩ := X6; have H6 := Aside0.mk I6; have HC6 := Aside0.mk hCq; have HG6 := Aside0.mk hgi; clear I6 hCq hgi; rw [c2] at hxr) | (go_at_call 96; refine (H6.out.call gi m bi Aq cq (rdR l0_1 (m : Int)) HC6.out (rowsIn_at HIN.out m).1 (rowsIn_at HIN.out m).2).mono ?_; rintro e w7 ⟨rfl, qq, rfl⟩; rw [HZ.out]))
                  go_roundw
                  case rel => exact ⟨m + 1, f2, of2, rest2, by first | rw [PdC.wnext m (by have := HN.out; omega)] | (subst c0; rfl), rfl, hlt, hres, ⟨by have := hL.out; omega⟩, ⟨H6.out.drewN _⟩⟩
                  case measure => (try rw [PdC.wnext m (by have := HN.out; omega)]); simp only [intOf, Int.toNat_natCast]; omega
                | false =>
                  have HZ := Aside0.mk hz
                  have hres : Aside0 (passF l0_1 l0_2 x2 n 0 of rest false = passF l0_1 l0_2 x2 (n - (m + 1)) (m + 1) (of2.set m x2) (rest2 ++ [(m : Int)]) (DomA.flag 1)) := ⟨by rw [HST.out, if_neg (by rw [c2]; simp; omega), if_neg (by rw [hz]; decide)]; rfl⟩
                  clear hz
                  go_wp2_with (first | ((with_reducible refine gate_dst (N := 11) rfl ?_); refine box_event ?hg (N := 11) ?hd (cs := #[.int .i64 0]) (t := 3) ?hr ?_; (case hd => rfl); (case hg => rfl); (case hr => first | (go_simp; done) | (go_simp; rfl)); intro gi hgi w5 hbox hb5; have m1 : w5.cell? ⟨gi, 0, none⟩ = some (.int .i64 0) := (blk_cell hbox 0).trans rfl; have m2 := blk_frozen hbox 0; have GI := Aside0.mk hgi; have BX := Aside0.mk hbox; have B5 := Aside0.mk hb5; clear hbox hb5 hgi) | ((with_reducible refine gate_store (t := 3) (p := 11) rfl ?_); refine store_event (t := 3) (p := 11) (v := ?vo) (w1 := (w5.setCell ⟨gi, 0, none⟩ (.int .i64 (m : Int)))) ?hg ?ho ?hn ?hr ?_; (case ho => rfl); (case hg => rfl); (case hn => rfl); (case hr => first | (go_simp; done) | (go_simp; rfl)); intro w6 hw; have X6 := inter_step hI.out HP1.out HP2.out GI.out BX.out B5.out hw hlt; clear m1 m2 hw GI BX B5; obtain ⟨I6, bi, b0, b1, b2, b3, b4, hxo, hfo, hxr, Aq, cq, hxp, hCq, hgi⟩ := X6; have H6 := Aside0.mk I6; have HC6 := Aside0.mk hCq; have HG6 := Aside0.mk hgi; clear I6 hCq hgi; rw [c2] at hxr) | (go_at_call 96; refine (H6.out.call gi m bi Aq cq (rdR l0_1 (m : Int)) HC6.out (rowsIn_at HIN.out m).1 (rowsIn_at HIN.out m).2).mono ?_; rintro e w7 ⟨rfl, qq, rfl⟩; rw [HZ.out]) | ((with_reducible refine gate_builtin (b := .append) (xs := #[.tmp 52, .tmp 54]) rfl ?_); at_builtin; have H8 := Aside0.mk (inter_put (H6.out.drewN qq) hlt x2 gi (.int .i64 (m : Int)) HG6.out bi rfl).1; have hsz : ((w6.drewN qq).setCell ⟨g, m, none⟩ (.int .i64 x2)).heap.size = w6.heap.size := (by simp [World.setCell]); refine Kd.R_append (Kd.int .i64) (w0 := w0) w0.heap.size rfl (.tmp 52) (.tmp 54) 27 3 (.int .i64 0) 8 rfl Try.underlying27 DomA.infoI rfl (by decide) (by omega) (.slice Av rest2.length cv) rest2 (m : Int) [.int .i64 (m : Int)] (fun k_ => w.heap.size + 3 ≤ k_) (fun _ => False) rfl (by rw [hsz]; rfl) ?aP (fun _ hk => hk.elim) ?aF ?aO ?aB ?aS ?aL ?_; (case aP => exact rfl); (case aB => exact H8.out.below); (case aF => exact (fun k_ hk => Nat.le_trans H8.out.sz hk)); (case aO => exact H8.out.rr); (case aS => exact below_size H8.out.below); (case aL => have := HGD.out; have := hL.out; omega); intro v10 w10 ho hb hg hat; have H10 := Aside0.mk (H8.out.row hg hb ho); clear ho hb hg hat))
                  go_roundw
                  case rel => exact ⟨m + 1, 1, _, _, by first | rw [PdC.wnext m (by have := HN.out; omega)] | (subst c0; rfl), rfl, hlt, hres, ⟨by have := hL.out; rw [List.length_append, List.length_singleton]; omega⟩, H10⟩
                  case measure => (try rw [PdC.wnext m (by have := HN.out; omega)]); simp only [intOf, Int.toNat_natCast]; omega
        · obtain rfl : m = n := by omega
          have y0 : decide ((m : Int) < (m : Int)) = false := decide_eq_false (by omega)
          have hP2 := hP.out
          rw [Nat.sub_self] at hP2
          have hP3 : passF l0_1 l0_2 x2 m 0 of rest false = (of2, rest2, DomA.flag f2) := hP2
          have hr := HR.out
          rw [hP3] at hr
          simp only at hr
          have HR2 : Aside0 ((DomA.flag f2 = true ∧ roundsF l0_1 l0_2 x2 m k1 of2 rest2 = some (ofR, reR)) ∨ (DomA.flag f2 = false ∧ ofR = of2 ∧ reR = rest2)) := ⟨by
            cases hc : DomA.flag f2 with
            | true => rw [hc, if_pos rfl] at hr; exact .inl ⟨rfl, hr⟩
            | false =>
              rw [hc, if_neg (by decide)] at hr
              injection hr with hr
              injection hr with e1 e2
              exact .inr ⟨rfl, e1.symm, e2.symm⟩⟩
          clear hlt hm hP hP2 hP3 hr
          go_wp2
          go_roundg k1
          case measure => omega
          case rel => exact ⟨f2, of2, rest2, rfl, HR2, hI⟩
end Go.Proofs.Ytfiffhcpgojkhaa
/- inter.Derive's loops as plain functions, and the row of rows that it makes. No condition. -/
namespace Go.Proofs.Ytfiffhcpgojkhaa.InterE
open Go.RowKit Go.Proofs.Ytfiffhcpgojkhaa Go.Proofs.YtfiffhcpgojkhaaW.PrintWords Go.Proofs.YtfiffhcpgojkhaaW.PrintLast Go.Proofs.YtfiffhcpgojkhaaW.PrintMore
set_option linter.unusedVariables false
set_option linter.unusedSimpArgs false
/-- What one place's row adds. -/
def derB (of : List Int) (fr : Int) : List Int → List (List Int) → Option (List (List Int))
 | [], P => some P
 | t :: ts, P => if 0 ≤ t ∧ t < (of.length : Int) ∧ rd of t ≠ fr then (if (DomA.rdL P fr).length < 17592186044416 then derB of fr ts (P.set fr.toNat (DomA.rdL P fr ++ [rd of t])) else none) else derB of fr ts P
def derA (kn : List (List Int)) (of : List Int) : Nat → Nat → List (List Int) → Option (List (List Int))
 | 0, _, P => some P
 | r + 1, i, P => if rd of (i : Int) < 0 then derA kn of r (i + 1) P else if rd of (i : Int) < (P.length : Int) ∧ i < kn.length ∧ (DomA.rdL kn (i : Int)).length < 4611686018427387904 then (derB of (rd of (i : Int)) (DomA.rdL kn (i : Int)) P).bind (derA kn of r (i + 1)) else none
def derC : Nat → Nat → List (List Int) → Option (List (List Int))
 | 0, _, P => some P
 | r + 1, i, P => if (DomA.rdL P (i : Int)).length < 4611686018427387904 then derC r (i + 1) (P.set i (Lib.compact ((DomA.rdL P (i : Int)).mergeSort fun x y => decide (x ≤ y)))) else none
theorem derB_len (of : List Int) (fr : Int) : ∀ ts P P2, derB of fr ts P = some P2 → P2.length = P.length := by
  intro ts
  induction ts with
  | nil => intro P P2 h; injection h with h; rw [h]
  | cons t ts ih =>
    intro P P2 h
    simp only [derB] at h
    split at h
    · split at h
      · rw [ih _ _ h, List.length_set]
      · cases h
    · exact ih _ _ h
theorem derA_step (kn : List (List Int)) (of : List Int) (n m : Nat) (h : m < n) (P : List (List Int)) : derA kn of (n - m) m P = if rd of (m : Int) < 0 then derA kn of (n - (m + 1)) (m + 1) P else if rd of (m : Int) < (P.length : Int) ∧ m < kn.length ∧ (DomA.rdL kn (m : Int)).length < 4611686018427387904 then (derB of (rd of (m : Int)) (DomA.rdL kn (m : Int)) P).bind (derA kn of (n - (m + 1)) (m + 1)) else none := by
  rw [show n - m = (n - (m + 1)) + 1 by omega]
  rfl
theorem derC_step (n m : Nat) (h : m < n) (P : List (List Int)) : derC (n - m) m P = if (DomA.rdL P (m : Int)).length < 4611686018427387904 then derC (n - (m + 1)) (m + 1) (P.set m (Lib.compact ((DomA.rdL P (m : Int)).mergeSort fun x y => decide (x ≤ y)))) else none := by
  rw [show n - m = (n - (m + 1)) + 1 by omega]
  rfl
theorem grown_of_kept {w0 W W2 : World} {B : Nat} {u : Value} (hb : Below B w0 W) (hb2 : Below B w0 W2) (hk : Kept W W2 (fun k => some k = u.ownBlock)) : W.grownBy W2 u.ownBlock :=
  ⟨hb2.os.trans hb.os.symm, hb2.tape.trans hb.tape.symm, hb2.output.trans hb.output.symm, hk.1, fun k hlt hne => hk.2 k hlt hne⟩
/-- The row of rows that is made. -/
def TO (w0 : World) (ok : Nat → Prop) (A : Option Addr) (n c : Nat) (P : List (List Int)) (W : World) : Prop := Kd.S (Kd.slice 3 (Kd.int .i64)) 27 W w0.heap.size ok (.slice A n c) P
theorem TO.len {w0 : World} {ok : Nat → Prop} {A : Option Addr} {n c : Nat} {P : List (List Int)} {W : World} (h : TO w0 ok A n c P W) : n = P.length := (Kd.S_reads' h).1
theorem TO.addr {w0 : World} {ok : Nat → Prop} {A : Option Addr} {n c : Nat} {P : List (List Int)} {W : World} (h : TO w0 ok A n c P W) (hn : 0 < n) : ∃ g, A = some ⟨g, 0, none⟩ := by
  have hl := (Kd.S_reads' h).1
  obtain ⟨g', cap, eo, gb, gl, cs, hc⟩ := Kd.S_form h (by omega)
  exact ⟨g', by injection eo⟩
theorem TO.elem {w0 : World} {ok : Nat → Prop} {g n c : Nat} {P : List (List Int)} {W : World} (h : TO w0 ok (some ⟨g, 0, none⟩) n c P W) (i : Int) (h0 : 0 ≤ i) (h1 : i < (n : Int)) :
    ∃ (A0 : Option Addr) (c0 : Nat) (oki : Nat → Prop), ok g ∧ some g ≠ (Value.slice A0 (DomA.rdL P i).length c0).ownBlock ∧ w0.heap.size ≤ g ∧ W.cell? ⟨g, i.toNat, none⟩ = some (.slice A0 (DomA.rdL P i).length c0) ∧ (Kd.R (Kd.int .i64) 3 W w0.heap.size oki (.slice A0 (DomA.rdL P i).length c0) (DomA.rdL P i)) ∧ (∀ k, oki k → ok k) ∧
      ∀ w1 v1 xs, Kd.R (Kd.int .i64) 3 w1 w0.heap.size (fun k => oki k ∨ ok k ∧ W.heap.size ≤ k) v1 xs → W.grownBy w1 (Value.slice A0 (DomA.rdL P i).length c0).ownBlock → (∃ u, w1.cell? ⟨g, i.toNat, none⟩ = some u) ∧ w1.frozen? ⟨g, i.toNat, none⟩ = false ∧ TO w0 ok (some ⟨g, 0, none⟩) n c (P.set i.toNat xs) (w1.setCell ⟨g, i.toNat, none⟩ v1) ∧ w1.grownBy (w1.setCell ⟨g, i.toNat, none⟩ v1) (some g) := by
  have hl := (Kd.S_reads' h).1
  obtain ⟨g', cap, eo, gb, gl, cs, hc⟩ := Kd.S_form h (by omega)
  obtain rfl : g = g' := by injection eo with e; injection e with e; injection e
  have hg0 : ok g := (Kd.S_R h).1 g rfl
  obtain ⟨oki, ce, hcl, hM, hcc, _, hoki, hH⟩ := Kd.S_elem h [] i h0 h1
  obtain ⟨ve, rfl, ge⟩ := hM
  have hv := hcc 0 _ rfl
  simp only [Nat.add_zero, show ((Kd.slice 3 (Kd.int .i64))).sz = 1 from rfl, Nat.mul_one] at hv
  obtain ⟨A0, c0, e0⟩ := Kd.R_slice ge
  subst e0
  refine ⟨A0, c0, oki, hg0, Kd.R_ne ge hc (by decide), gb, hv, ge, fun k hk => (hoki k hk).1, fun w1 v1 xs hr hg => ?_⟩
  have hH1 := Kd.H_grown (Kd.H_widen hH) hg (fun k_ e_ => .inl (ge.1 k_ e_))
  obtain ⟨_, _, hraw, _, _, hcc2, _⟩ := Kd.H_raw hH1 h0 h1
  obtain ⟨_, hfr⟩ := Kd.H_at hH1 h0 h1
  have hx := hcc2 0 _ rfl
  have hf := hfr 0
  have HP := Kd.S_seg0 hH1 h0 h1 (seg := [v1]) (j := 0) (show 1 ≤ 1 from by decide) (x' := xs) (Kd.M_row hr) (fun _ hk => hk)
  simp only [Nat.add_zero, show ((Kd.slice 3 (Kd.int .i64))).sz = 1 from rfl, Nat.mul_one] at hx hf HP
  exact ⟨⟨_, hx⟩, hf, HP.1, HP.2⟩
end Go.Proofs.Ytfiffhcpgojkhaa.InterE
