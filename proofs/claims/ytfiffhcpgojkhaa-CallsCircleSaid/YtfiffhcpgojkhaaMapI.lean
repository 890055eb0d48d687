/- A map of the call's own from ints to ints, told as a function; calls.ready by hand. No condition but that keys and values are of 64 bits. -/
import Derived.Test.YtfiffhcpgojkhaaProg
import Derived.Maps.Own
import Derived.Maps.Views
import Derived.Test.YtfiffhcpgojkhaaSort
import Derived.Test.YtfiffhcpgojkhaaWTab
import Derived.Test.YtfiffhcpgojkhaaWFour
import Derived.Test.YtfiffhcpgojkhaaWQPut
import Derived.Test.YtfiffhcpgojkhaaWApart
import Derived.Test.YtfiffhcpgojkhaaWArr
import Derived.Test.YtfiffhcpgojkhaaWZeros
import Derived.Test.YtfiffhcpgojkhaaWFoot
import Derived.Test.YtfiffhcpgojkhaaWKept
import Derived.Test.YtfiffhcpgojkhaaWShare
import Derived.Test.YtfiffhcpgojkhaaWN
import Derived.Test.YtfiffhcpgojkhaaWFootNe
import Derived.Test.YtfiffhcpgojkhaaWAt
import Derived.Test.YtfiffhcpgojkhaaWGuard
import Derived.Test.YtfiffhcpgojkhaaWNEv
import Derived.Test.YtfiffhcpgojkhaaPdC
namespace Go.Proofs.Ytfiffhcpgojkhaa
open Go.RowKit Go.Proofs.YtfiffhcpgojkhaaW.PrintWords Go.Proofs.YtfiffhcpgojkhaaW.PrintLast Go.Proofs.YtfiffhcpgojkhaaW.PrintMore
set_option linter.unusedVariables false
set_option linter.unusedSimpArgs false
def w64 (x : Int) : Prop := (Lit.int .i64 x).wf = true
/-- Block b is a map of at most n entries; at x it has f x. -/
def MapI (w : World) (b n : Nat) (f : Int → Int) : Prop := ∃ D : DataW Unit, w.ownsMap Try.prog 3 (plainElem Try.prog 3) b n D ∧ Maps.IsMap D ∧ ∀ x, w64 x → D.atKey (.int .i64 x) (.lit (.int .i64 0)) = .lit (.int .i64 (f x))
theorem MapI.made (w : World) : MapI (w.alloc (.map #[] 0)) w.heap.size 0 (fun _ => 0) := ⟨_, World.ownsMap_made w _ _ _, ⟨[], rfl⟩, fun _ _ => rfl⟩
theorem MapI.kept {w w' : World} {b n : Nat} {f : Int → Int} {row : Option Nat} (h : MapI w b n f) (hg : w.grownBy w' row) (hne : some b ≠ row) : MapI w' b n f := by
  obtain ⟨D, h1, h2, h3⟩ := h
  exact ⟨D, h1.kept hg hne, h2, h3⟩
theorem MapI.below {w w' : World} {b n : Nat} {f : Int → Int} (h : MapI w b n f) (hb : Below w.heap.size w w') : MapI w' b n f := h.kept (grown_of_below hb none) (by simp)
theorem MapI.lt {w : World} {b n : Nat} {f : Int → Int} (h : MapI w b n f) : b < w.heap.size := by
  obtain ⟨D, h1, _⟩ := h
  exact h1.lt
theorem keyI {x : Int} (hx : w64 x) : keyOf Try.prog 3 (.int .i64 x) = some (.int .i64 x) := Maps.keyOf_int_mk Try.underlying3 hx
theorem zeroI (w : World) : (zeroValue 3).run Try.prog w = .ok (.int .i64 0) w := Try.zeroValue3 w
theorem MapI.look {w : World} {b n : Nat} {f : Int → Int} (h : MapI w b n f) {x : Int} (hx : w64 x) : (Instr.lookup 70 (.map (some b)) (.int .i64 x) false).run Try.prog w = .ok (.int .i64 (f x)) w := by
  obtain ⟨D, h1, h2, h3⟩ := h
  obtain ⟨c, hrun, hat, hwc⟩ := h1.lookup_int (Maps.int_keyed Try.underlying3) Try.underlying70 Try.underlying3 (zeroI w) (keyI hx)
  rw [h3 x hx] at hat
  simp only [DataW.lit.injEq, Lit.int.injEq, true_and] at hat
  rw [hrun, hat]
theorem MapI.put {w : World} {b n : Nat} {f : Int → Int} (h : MapI w b n f) (hn : n < maxLen) {x v : Int} (hx : w64 x) (hv : w64 v) : ∃ w', (Instr.mapUpdate 70 (.map (some b)) (.int .i64 x) (.int .i64 v)).run Try.prog w = .ok () w' ∧ MapI w' b (n + 1) (fun y => if y = x then v else f y) ∧ w.grownBy w' (some b) := by
  obtain ⟨D, h1, h2, h3⟩ := h
  obtain ⟨w', hrun, ho, hg⟩ := h1.update (Maps.int_keyed Try.underlying3) Try.underlying70 hn (keyI hx) (plainElem_int Try.underlying3 hv)
  refine ⟨w', hrun, ⟨_, ho, Maps.IsMap.put h2 _ _, fun y hy => ?_⟩, hg⟩
  show _ = DataW.lit (.int .i64 (if y = x then v else f y))
  by_cases e : y = x
  · subst e
    rw [if_pos rfl]
    exact Maps.atKey_put_same h2 (by trivial) _ _
  · rw [if_neg e, Maps.atKey_put_other (fun he => e (by injection he)), h3 y hy]
def rdyF (f : Int → Int) (l : List Int) : Bool := l.all fun x => f x != 0
set_option maxHeartbeats 4000000 in
set_option maxRecDepth 100000 in
theorem calls_ready.calls (A0 : Option Addr) (c0 : Nat) (l0 : List Int) (b n : Nat) (f : Int → Int) (w : World) (hr0 : Kd.C (Kd.int .i64) w A0 l0.length l0) (hc0 : l0.length ≤ c0) (hm : MapI w b n f) (hlen : l0.length < 4611686018427387904) (hw : ∀ x ∈ l0, w64 x) :
    Calls Try.prog 67 #[.slice A0 l0.length c0, .map (some b)] w fun e w' => e = .returned (.bool (rdyF f l0)) ∧ w' = w := by
  have HR0 := Aside0.mk hr0
  have HM := Aside0.mk hm
  have HL := Aside0.mk hlen
  have HW := Aside0.mk hw
  have H0 : Aside0 (rdyF f l0 = rdyF f (l0.drop 0)) := ⟨by rw [List.drop_zero]⟩
  clear hr0 hc0 hm hlen hw
  go_enter Try.func67, Try.ntmps67
  go_wp2
  go_loopw [9] (fun vi wr => ∃ (m : Nat), vi = .int .i64 (m : Int) ∧ m ≤ l0.length ∧ Aside0 (rdyF f l0 = rdyF f (l0.drop m)) ∧ wr = w) (fun vi _ => l0.length - (intOf vi).toNat)
  case atStart => exact ⟨0, rfl, Nat.zero_le _, H0, rfl⟩
  case round =>
    obtain ⟨m, rfl, hm, hO, rfl⟩ := hrel
    clear H0
    by_cases hlt : m < l0.length
    · obtain ⟨ad, eA, hx⟩ := Kd.at_int HR0.out (m : Int) (by omega) (by omega)
      subst eA
      rw [Int.toNat_natCast] at hx
      have hq := hO.out
      rw [PdC.drop_rd l0 m hlt] at hq
      have hmem := PdC.rd_mem l0 m hlt
      have hlk := MapI.look HM.out (HW.out _ hmem)
      have y0 : decide ((m : Int) < (l0.length : Int)) = true := decide_eq_true (by omega)
      have y1 : (m < l0.length) = True := eq_true hlt
      generalize rd l0 (m : Int) = c at hx hq hlk
      have HQ := Aside0.mk hq
      clear hq hO hmem
      by_cases hz : f c = 0
      · have y2 : (f c == 0) = true := beq_iff_eq.mpr hz
        have hres : Aside0 (rdyF f l0 = false) := ⟨by rw [HQ.out]; simp [rdyF, hz]⟩
        rw [hz] at hlk
        clear y2
        go_wp2
        go_ret
        exact ⟨by rw [hres.out]; rfl, rfl⟩
      · have y2 : (f c == 0) = false := beq_eq_false_iff_ne.mpr hz
        have hres : Aside0 (rdyF f l0 = rdyF f (l0.drop (m + 1))) := ⟨by rw [HQ.out]; simp [rdyF, hz]⟩
        go_wp2
        go_roundw
        case rel => exact ⟨m + 1, by rw [PdC.wnext m (by have := HL.out; omega)], hlt, hres, by trivial⟩
        case measure => rw [PdC.wnext m (by have := HL.out; omega)]; simp only [intOf, Int.toNat_natCast]; omega
    · obtain rfl : m = l0.length := by omega
      have y0 : decide ((l0.length : Int) < (l0.length : Int)) = false := decide_eq_false (by omega)
      have hres : Aside0 (rdyF f l0 = true) := ⟨by rw [hO.out, List.drop_length]; rfl⟩
      clear hlt hm hO
      go_wp2
      go_ret
      exact ⟨by rw [hres.out]; rfl, rfl⟩
end Go.Proofs.Ytfiffhcpgojkhaa
