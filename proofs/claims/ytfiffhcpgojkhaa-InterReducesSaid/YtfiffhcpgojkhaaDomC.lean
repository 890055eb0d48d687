/- dom.Idom's closure by hand: where two chains meet. No condition. -/
import Derived.Test.YtfiffhcpgojkhaaDomB
namespace Go.Proofs.Ytfiffhcpgojkhaa
open Go.RowKit Go.Proofs.YtfiffhcpgojkhaaW.PrintWords Go.Proofs.YtfiffhcpgojkhaaW.PrintLast Go.Proofs.YtfiffhcpgojkhaaW.PrintMore Go.Proofs.Ytfiffhcpgojkhaa.DomF
set_option linter.unusedVariables false
set_option linter.unusedSimpArgs false
namespace DomA
def meetF (T D : List Int) : Nat → Int → Int → Option Int
  | 0, _, _ => none
  | k + 1, a, b => if a = b then some a else if 0 ≤ a ∧ a < (T.length : Int) ∧ 0 ≤ b ∧ b < (T.length : Int) ∧ a < (D.length : Int) ∧ b < (D.length : Int) then (if rd T a > rd T b then meetF T D k (rd D a) b else meetF T D k a (rd D b)) else none
theorem rdOf_rd (L : List Int) (i : Int) : rdOf 0 L i = rd L i := rfl
set_option maxHeartbeats 8000000 in
set_option maxRecDepth 100000 in
theorem meet_calls (T D : List Int) (ba bi ra ri ca ci n base : Nat) (okT okD : Nat → Prop) : ∀ (K : Nat) (a b m : Int) (W : World), meetF T D K a b = some m → T.length = n → D.length = n →
    W.heap[ba]? = some (.cells #[.slice (some ⟨ra, 0, none⟩) n ca] 27 (0, 0)) → W.heap[bi]? = some (.cells #[.slice (some ⟨ri, 0, none⟩) n ci] 27 (0, 0)) →
    Kd.R (Kd.int .i64) 3 W base okT (.slice (some ⟨ra, 0, none⟩) n ca) T → Kd.R (Kd.int .i64) 3 W base okD (.slice (some ⟨ri, 0, none⟩) n ci) D →
    Calls Try.prog 74 #[.int .i64 a, .int .i64 b, .pointer (some ⟨ba, 0, none⟩), .pointer (some ⟨bi, 0, none⟩)] W fun e w' => e = .returned (.int .i64 m) ∧ Drawn0 W w' := by
  intro K a b m W h hT hD h1 h2 h3 h4
  have HH := Aside0.mk h
  have H1 := Aside0.mk h1
  have H2 := Aside0.mk h2
  have H3 := Aside0.mk h3
  have H4 := Aside0.mk h4
  clear h h1 h2 h3 h4
  go_enter Try.func74, Try.ntmps74
  go_wp2
  go_loopg [0, 1] K (fun kq va vb w' => ∃ (a' b' : Int) (q : Nat), va = .int .i64 a' ∧ vb = .int .i64 b' ∧ Aside0 (meetF T D kq a' b' = some m) ∧ w' = W.drewN q)
  case atStart => exact ⟨a, b, 0, rfl, rfl, HH, rfl⟩
  case round =>
    obtain ⟨a', b', q, rfl, rfl, HQ, rfl⟩ := hrel
    cases gk with
    | zero => exact absurd HQ.out (by simp [meetF])
    | succ k1 =>
      have hq := HQ.out
      simp only [meetF] at hq
      by_cases c0 : a' = b'
      · rw [if_pos c0] at hq
        obtain rfl := Option.some.inj hq
        have y0 : (a' != b') = false := bne_eq_false_iff_eq.mpr c0
        have y1 : (a' == b') = true := beq_iff_eq.mpr c0
        clear hq HQ
        go_wp2
        go_ret
        exact ⟨rfl, ⟨_, rfl⟩⟩
      · rw [if_neg c0] at hq
        have y0 : (a' != b') = true := bne_iff_ne.mpr c0
        have y1 : (a' == b') = false := beq_eq_false_iff_ne.mpr c0
        split at hq
        rotate_left
        · cases hq
        rename_i hr
        obtain ⟨r1, r2, r3, r4, r5, r6⟩ := hr
        obtain ⟨p1, _⟩ := Kd.R_celln (0 : Int) H3.out a' r1 (by omega)
        obtain ⟨p2, _⟩ := Kd.R_celln (0 : Int) H3.out b' r3 (by omega)
        obtain ⟨p3, _⟩ := Kd.R_celln (0 : Int) H4.out a' r1 (by omega)
        obtain ⟨p4, _⟩ := Kd.R_celln (0 : Int) H4.out b' r3 (by omega)
        rw [rdOf_rd] at p1 p2 p3 p4
        have v1 : W.cell? ⟨ba, 0, none⟩ = some (.slice (some ⟨ra, 0, none⟩) n ca) := (blk_cell H1.out 0).trans rfl
        have v2 : W.cell? ⟨bi, 0, none⟩ = some (.slice (some ⟨ri, 0, none⟩) n ci) := (blk_cell H2.out 0).trans rfl
        have s1 : (0 ≤ a') = True := eq_true r1
        have s2 : (a' < (n : Int)) = True := eq_true (by omega)
        have s3 : (0 ≤ b') = True := eq_true r3
        have s4 : (b' < (n : Int)) = True := eq_true (by omega)
        clear r1 r2 r3 r4 r5 r6 c0
        generalize rd T a' = ta at *
        generalize rd T b' = tb at *
        generalize rd D a' = da at *
        generalize rd D b' = db at *
        by_cases c1 : ta > tb
        · rw [if_pos c1] at hq
          have z1 : decide (ta > tb) = true := decide_eq_true c1
          have z2 : decide (tb < ta) = true := decide_eq_true c1
          have HQ' := Aside0.mk hq
          clear hq HQ c1
          go_wp2
          repeat (go_quiet (fail); try go_wp2)
          go_roundg k1
          case measure => omega
          case rel => exact ⟨da, b', _, rfl, rfl, HQ', rfl⟩
        · rw [if_neg c1] at hq
          have z1 : decide (ta > tb) = false := decide_eq_false c1
          have z2 : decide (tb < ta) = false := decide_eq_false c1
          have HQ' := Aside0.mk hq
          clear hq HQ c1
          go_wp2
          repeat (go_quiet (fail); try go_wp2)
          go_roundg k1
          case measure => omega
          case rel => exact ⟨a', db, _, rfl, rfl, HQ', rfl⟩
end DomA
end Go.Proofs.Ytfiffhcpgojkhaa
