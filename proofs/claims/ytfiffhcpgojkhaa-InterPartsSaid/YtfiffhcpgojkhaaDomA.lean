/- dom.Order by hand: its closure walks from a place on; what is met and done lies in boxes. No condition. -/
import Derived.Test.YtfiffhcpgojkhaaProg
import Derived.Below
import Derived.Deep.Draws
import Derived.Deep.AppendLies
import Derived.Maps.AppendAt
import Derived.OwnWalk
import Derived.Laws.BytesArg
import Derived.Laws.MakeOwn
import Derived.Laws.OwnMore
import Derived.Deep.OwnRows
import Derived.Tactics
import Derived.Lib.ConvBytes
import Derived.Laws.Slices
import Derived.WalkKit
import Derived.KernelRfl
import Derived.RowKit3
import Derived.Deep.LoopGhost
import Derived.Deep.QuietTactic
import Derived.BigQuiet
import Derived.WideLaws
import Derived.Deep.DeepCutAuto
import Derived.Deep.CutBlock
import Derived.Deep.RegionHeld3
import Derived.Laws.Rows
import Derived.Lib.AppendStr
import Derived.ArgAppend
import Derived.Laws.IdiomCopy
import Derived.OrdersHeld
import Derived.Laws.BitsLemmas
import Derived.RowKit
import Derived.Laws.EntriesVeiled
import Derived.Laws.ByValue
import Derived.Lib.Hide
import Derived.Test.YtfiffhcpgojkhaaWWords
import Derived.Test.YtfiffhcpgojkhaaWLast
import Derived.Test.YtfiffhcpgojkhaaWTab
import Derived.Test.YtfiffhcpgojkhaaWFour
import Derived.Test.YtfiffhcpgojkhaaWQPut
import Derived.Test.YtfiffhcpgojkhaaWApart
import Derived.Test.YtfiffhcpgojkhaaWArr
import Derived.Test.YtfiffhcpgojkhaaWZeros
import Derived.Test.YtfiffhcpgojkhaaWFoot
import Derived.Test.YtfiffhcpgojkhaaWKept
import Derived.Test.YtfiffhcpgojkhaaWShare
import Derived.Test.YtfiffhcpgojkhaaWN
import Derived.Test.YtfiffhcpgojkhaaWFootNe
import Derived.Test.YtfiffhcpgojkhaaWAt
import Derived.Test.YtfiffhcpgojkhaaWRepsOne
import Derived.Test.YtfiffhcpgojkhaaWGuard
import Derived.Test.YtfiffhcpgojkhaaWNEv
import Derived.Test.YtfiffhcpgojkhaaWMore
import Derived.Test.YtfiffhcpgojkhaaDomF
namespace Go.Proofs.Ytfiffhcpgojkhaa
open Go.RowKit Go.Proofs.YtfiffhcpgojkhaaW.PrintWords Go.Proofs.YtfiffhcpgojkhaaW.PrintLast Go.Proofs.YtfiffhcpgojkhaaW.PrintMore Go.Proofs.Ytfiffhcpgojkhaa.DomF
set_option linter.unusedVariables false
set_option linter.unusedSimpArgs false
namespace DomA
theorem infoI : (Try.prog.info? 3).map (fun i => (i.zero, i.size, i.bytes)) = some (some (.int .i64 0), 1, 8) := by kernel_rfl
theorem infoB : (Try.prog.info? 4).map (fun i => (i.zero, i.size, i.bytes)) = some (some (.bool false), 1, 1) := by kernel_rfl
def rdL (xs : List (List Int)) (i : Int) : (List Int) := xs.getD i.toNat ([] : List Int)
theorem at_L {w : World} {A : Option Addr} {n : Nat} {xs : List (List Int)} (h : Kd.C (Kd.slice 3 (Kd.int .i64)) w A n xs) (i : Int) (h0 : 0 ≤ i) (h1 : i < n) : ∃ ad A0 c0, A = some ad ∧ w.cell? (ad.add i.toNat) = some (.slice A0 (rdL xs i).length c0) ∧ (rdL xs i).length ≤ c0 ∧ (Kd.int .i64).C w A0 (rdL xs i).length (rdL xs i) := by
  obtain ⟨ad, c, e, _, hK, hc0⟩ := Kd.C_get h ([] : List Int) i h0 h1
  have hc : ∀ j u, c[j]? = some u → w.cell? (ad.add (i.toNat * 1 + j)) = some u := hc0
  obtain ⟨A0, c0, rfl, l0, g0⟩ := hK
  exact ⟨ad, A0, c0, e, by have hq := hc 0 _ rfl; rwa [Nat.mul_one, Nat.add_zero] at hq, l0, g0⟩
theorem dfsL_len {f : Nat → List Bool → List Int → Option (List Bool × List Int)} {n : Nat} (hf : ∀ i M D p, f i M D = some p → D.length < p.2.length ∧ p.1.length = M.length) : ∀ cs M D p, dfsL f n cs M D = some p → D.length ≤ p.2.length ∧ p.1.length = M.length := by
  intro cs
  induction cs with
  | nil => intro M D p h; simp only [dfsL, Option.some.injEq] at h; subst h; exact ⟨Nat.le_refl _, rfl⟩
  | cons c cs ih =>
    intro M D p h
    simp only [dfsL] at h
    split at h
    · obtain ⟨q, hq, h⟩ := Option.bind_eq_some_iff.mp h
      have h1 := hf _ _ _ _ hq
      have h2 := ih _ _ _ h
      exact ⟨by omega, by omega⟩
    · exact ih _ _ _ h
theorem dfs_len (next : List (List Int)) : ∀ k i M D p, dfs next k i M D = some p → D.length < p.2.length ∧ p.1.length = M.length := by
  intro k
  induction k with
  | zero => intro i M D p h; cases h
  | succ k ih =>
    intro i M D p h
    simp only [dfs] at h
    obtain ⟨q, hq, h⟩ := Option.map_eq_some_iff.mp h
    have h1 := dfsL_len ih _ _ _ _ hq
    subst h
    simp only [List.length_append, List.length_cons, List.length_nil, List.length_set] at h1 ⊢
    exact ⟨by omega, h1.2⟩
/-- The captured variables' boxes. -/
structure Bx where
  bm : Nat
  bn : Nat
  bf : Nat
  bo : Nat
  rm : Nat
  cm : Nat
  A0 : Option Addr
  n : Nat
  c0 : Nat
/-- The world while one walks: M is met, D is done. -/
structure OS (w0 : World) (x : Bx) (M : List Bool) (D : List Int) (W : World) : Prop where
  below : Below w0.heap.size w0 W
  hm : W.heap[x.bm]? = some (.cells #[.slice (some ⟨x.rm, 0, none⟩) x.n x.cm] 25 (0, 0))
  hn : W.heap[x.bn]? = some (.cells #[.slice x.A0 x.n x.c0] 22 (0, 0))
  hf : W.heap[x.bf]? = some (.cells #[.func (.func 84) #[] #[.pointer (some ⟨x.bm, 0, none⟩), .pointer (some ⟨x.bn, 0, none⟩), .pointer (some ⟨x.bf, 0, none⟩), .pointer (some ⟨x.bo, 0, none⟩)]] 88 (0, 0))
  ho : ∃ v, W.heap[x.bo]? = some (.cells #[v] 27 (0, 0)) ∧ Kd.R (Kd.int .i64) 3 W w0.heap.size (fun _ => True) v D
  met : Kd.R Kd.bool 4 W w0.heap.size (fun _ => True) (.slice (some ⟨x.rm, 0, none⟩) x.n x.cm) M
  lo : w0.heap.size ≤ x.bo
theorem ne_of_type {W : World} {a b : Nat} {cs cs' : Array Value} {t t' : TypeId} (ha : W.heap[a]? = some (.cells cs t (0, 0))) (hb : W.heap[b]? = some (.cells cs' t' (0, 0))) (ht : t ≠ t') : a ≠ b := by
  rintro rfl
  rw [ha] at hb
  injection hb with hb
  injection hb with _ h2 _
  exact ht h2
theorem OS.drew {w0 : World} {x : Bx} {M : List Bool} {D : List Int} {W : World} (h : OS w0 x M D W) (m : Nat) : OS w0 x M D (W.drewN m) := by
  obtain ⟨h1, h2, h3, h4, ⟨v, h5, h6⟩, h7, h8⟩ := h
  exact ⟨pw_below_drewN h1 _, h2, h3, h4, ⟨v, h5, Kd.R_drewN h6 _⟩, Kd.R_drewN h7 _, h8⟩
/-- The row of what is met has a place set. -/
theorem OS.put {w0 : World} {x : Bx} {M : List Bool} {D : List Int} {W : World} (h : OS w0 x M D W) (i : Int) (hM : 0 < M.length) (b : Bool) : OS w0 x (M.set i.toNat b) D (W.setCell ⟨x.rm, i.toNat, none⟩ (.bool b)) := by
  obtain ⟨h1, h2, h3, h4, ⟨v, h5, h6⟩, h7, h8⟩ := h
  obtain ⟨hp, hg⟩ := Kd.R_putg h7 i b
  obtain ⟨go, co, eo, gb, gl, cs, hc⟩ := Kd.R_form h7 hM
  obtain ⟨e1, e2⟩ : (⟨x.rm, 0, none⟩ : Addr) = ⟨go, 0, none⟩ ∧ True := ⟨by injection eo with e; injection e, trivial⟩
  injection e1 with e1
  subst e1
  have nm := ne_of_type h2 hc (by decide)
  have nn := ne_of_type h3 hc (by decide)
  have nf := ne_of_type h4 hc (by decide)
  have no := ne_of_type h5 hc (by decide)
  refine ⟨below_set h1 gb, blk_grown h2 hg (by simpa using nm), blk_grown h3 hg (by simpa using nn), blk_grown h4 hg (by simpa using nf), ⟨v, blk_grown h5 hg (by simpa using no), ?_⟩, hp, h8⟩
  exact Kd.R_over' (v := .slice (some ⟨x.rm, 0, none⟩) x.n x.cm) h6 (Kd.R_typed h7) (by decide) hg
/-- Something is appended to the row of what is done, and its slice stored. -/
theorem OS.app {w0 : World} {x : Bx} {M : List Bool} {D D' : List Int} {W w1 : World} (h : OS w0 x M D W) {v v1 : Value} (hv : W.heap[x.bo]? = some (.cells #[v] 27 (0, 0))) (hr : Kd.R (Kd.int .i64) 3 W w0.heap.size (fun _ => True) v D)
    (hr1 : Kd.R (Kd.int .i64) 3 w1 w0.heap.size (fun _ => True) v1 D') (hb : Below w0.heap.size w0 w1) (hg : W.grownBy w1 v.ownBlock) : OS w0 x M D' (w1.setCell ⟨x.bo, 0, none⟩ v1) := by
  obtain ⟨h1, h2, h3, h4, _, h7, h8⟩ := h
  have key : ∀ {b : Nat} {cs : Array Value} {t : TypeId}, W.heap[b]? = some (.cells cs t (0, 0)) → t ≠ 3 → w1.heap[b]? = some (.cells cs t (0, 0)) := by
    intro b cs t hb ht
    refine blk_grown hb hg ?_
    intro e
    obtain ⟨cs2, hc⟩ := Kd.R_typed hr b e.symm
    exact ne_of_type hb hc ht rfl
  have k2 := key h2 (by decide)
  have k3 := key h3 (by decide)
  have k4 := key h4 (by decide)
  have k5 := key hv (by decide)
  have r7 := Kd.R_over' h7 (Kd.R_typed hr) (by decide) hg
  have gs : w1.grownBy (w1.setCell ⟨x.bo, 0, none⟩ v1) (some x.bo) := ⟨rfl, rfl, rfl, by simp [World.setCell], fun k _ hk => Below.heap_setCell _ _ _ k (fun e => hk (by rw [e]))⟩
  have far : ∀ {b : Nat} {cs : Array Value} {t : TypeId}, w1.heap[b]? = some (.cells cs t (0, 0)) → t ≠ 27 → (w1.setCell ⟨x.bo, 0, none⟩ v1).heap[b]? = some (.cells cs t (0, 0)) := fun hb ht => blk_far hb (ne_of_type hb k5 ht) v1
  refine ⟨below_set hb h8, far k2 (by decide), far k3 (by decide), far k4 (by decide), ⟨v1, blk_put k5 0 v1 rfl, ?_⟩, ?_, h8⟩
  · exact Kd.R_over' (v := .slice (some ⟨x.bo, 0, none⟩) 1 1) hr1 (fun k hk => by cases hk; exact ⟨_, k5⟩) (by decide) gs
  · exact Kd.R_over' (v := .slice (some ⟨x.bo, 0, none⟩) 1 1) r7 (fun k hk => by cases hk; exact ⟨_, k5⟩) (by decide) gs
theorem box_still {W w1 : World} {b : Nat} {t : TypeId} {cs : Array Value} {base : Nat} {v : Value} {D : List Int} (hv : W.heap[b]? = some (.cells cs t (0, 0))) (ht : t ≠ 3) (hr : Kd.R (Kd.int .i64) 3 W base (fun _ => True) v D) (hg : W.grownBy w1 v.ownBlock) : w1.heap[b]? = some (.cells cs t (0, 0)) := by
  refine blk_grown hv hg ?_
  intro e
  obtain ⟨cs2, hc⟩ := Kd.R_typed hr b e.symm
  exact ne_of_type hv hc ht rfl
set_option maxHeartbeats 8000000 in
set_option maxRecDepth 100000 in
theorem deep_calls (w0 : World) (x : Bx) (next : List (List Int)) (hn : x.n = next.length) (hr : Kd.C (Kd.slice 3 (Kd.int .i64)) w0 x.A0 next.length next) (hc : next.length ≤ x.c0) (hbig : ∀ i, (next.getD i []).length < 4611686018427387904) : ∀ k i M D M1 D1, i < next.length → M.length = next.length → dfs next k i M D = some (M1, D1) → D1.length ≤ 17592186044416 → ∀ W, OS w0 x M D W →
    Calls Try.prog 84 #[.int .i64 (i : Int), .pointer (some ⟨x.bm, 0, none⟩), .pointer (some ⟨x.bn, 0, none⟩), .pointer (some ⟨x.bf, 0, none⟩), .pointer (some ⟨x.bo, 0, none⟩)] W fun e w' => e = .returned (.tuple #[]) ∧ OS w0 x M1 D1 w' := by
  intro k
  induction k with
  | zero => intro i M D M1 D1 _ _ h; cases h
  | succ k ih =>
  intro i M D M1 D1 hi hM h hD W hW
  simp only [dfs] at h
  obtain ⟨⟨M2, D2⟩, hq, h⟩ := Option.map_eq_some_iff.mp h
  simp only [Prod.mk.injEq] at h
  obtain ⟨rfl, rfl⟩ := h
  obtain ⟨ad, A1, c1, eA, hx, hl1, hr1⟩ := at_L hr (i : Int) (by omega) (by omega)
  have ecs : rdL next (i : Int) = next.getD i [] := by simp [rdL]
  rw [ecs] at hx hl1 hr1
  rw [Int.toNat_natCast] at hx
  have hl63 := hbig i
  generalize hcs : next.getD i [] = cs at *
  have HX := Aside0.mk hx
  have HR1 := Aside0.mk hr1
  have HQ := Aside0.mk hq
  have HD := Aside0.mk hD
  have HW := Aside0.mk hW
  have IH := Aside0.mk ih
  have HI := Aside0.mk hi
  have HM := Aside0.mk hM
  have HBIG := Aside0.mk hbig
  clear hx hr1 hq hD ih hr hM hbig
  have z0 : decide (0 ≤ (i : Int)) = true := decide_eq_true (by omega)
  have z1 : decide ((i : Int) < (x.n : Int)) = true := decide_eq_true (by omega)
  have z2 : (i < x.n) = True := eq_true (by omega)
  have z3 : ((i : Int) < (x.n : Int)) = True := eq_true (by omega)
  have z4 : (0 ≤ (i : Int)) = True := eq_true (by omega)
  have f1 : W.cell? ⟨x.bm, 0, none⟩ = some (.slice (some ⟨x.rm, 0, none⟩) x.n x.cm) := (blk_cell hW.hm 0).trans rfl
  obtain ⟨f2, f3⟩ := Kd.R_celln false hW.met (i : Int) (by omega) (by omega)
  rw [Int.toNat_natCast] at f2 f3
  obtain ⟨bm, bn, bf, bo, rm, cm, A0, n, c0⟩ := x
  simp only at hn eA z1 z2 z3 f1 f2 f3 hc ⊢
  subst hn
  subst eA
  clear hW h hl1 hcs hi
  have hM2 : 0 < M.length := by have := HI.out; have := HM.out; omega
  go_enter Try.func84, Try.ntmps84
  go_wp2_with ((with_reducible refine gate_store (t := 4) (p := 10) rfl ?_); refine store_event (t := 4) (p := 10) (v := ?vo) (w1 := (W.setCell ⟨rm, i, none⟩ (.bool true))) ?hg ?ho ?hn ?hr ?_; (case ho => rfl); (case hg => rfl); (case hn => rfl); (case hr => first | (go_simp; done) | (go_simp; rfl)); intro W1 hw; have h1 : OS w0 ⟨bm, bn, bf, bo, rm, cm, some ad, next.length, c0⟩ (M.set i true) D W1 := (by rw [hw]; exact HW.out.put (i : Int) hM2 true); clear hw; have H1 := Aside0.mk h1; have f4 : W1.cell? ⟨bn, 0, none⟩ = some (.slice (some ad) next.length c0) := (blk_cell h1.hn 0).trans rfl; have f5 : W1.cell? (ad.add i) = some (.slice A1 cs.length c1) := (h1.below.cell (World.block_lt_of_cell? _ _ HX.out)).trans HX.out; clear h1)
  clear f1 f2 f3 hM2
  go_loopw [16] (fun vi wr => ∃ (j : Nat) (M' : List Bool) (D' : List Int), vi = .int .i64 (j : Int) ∧ j ≤ cs.length ∧ M'.length = next.length ∧ Aside0 (dfsL (dfs next k) next.length (cs.drop j) M' D' = some (M2, D2)) ∧ Aside0 (OS w0 ⟨bm, bn, bf, bo, rm, cm, some ad, next.length, c0⟩ M' D' wr)) (fun vi _ => cs.length - (intOf vi).toNat)
  case atStart => exact ⟨0, M.set i true, D, rfl, Nat.zero_le _, by rw [List.length_set]; exact HM.out, HQ, H1⟩
  case round =>
    obtain ⟨j, M', D', rfl, hj, hM', HQ', HW'⟩ := hrel
    have hb := HW'.out.below
    have HB := Aside0.mk hb
    by_cases hlt : j < cs.length
    · obtain ⟨a1, eA1, hx1⟩ := Kd.at_int (Kd.C_below HR1.out hb) (j : Int) (by omega) (by omega)
      rw [Int.toNat_natCast] at hx1
      have hdrop : cs.drop j = rd cs (j : Int) :: cs.drop (j + 1) := by
        rw [List.drop_eq_getElem_cons hlt]
        simp [rd, hlt]
      have hq := HQ'.out
      rw [hdrop] at hq
      simp only [dfsL] at hq
      clear hdrop HQ'
      subst eA1
      generalize rd cs (j : Int) = c at hx1 hq
      have y0 : decide ((j : Int) < (cs.length : Int)) = true := decide_eq_true (by omega)
      have y1 : (j < cs.length) = True := eq_true hlt
      have y2 : ((j : Int) < (cs.length : Int)) = True := eq_true (by omega)
      have g1 : wr.cell? ⟨bm, 0, none⟩ = some (.slice (some ⟨rm, 0, none⟩) next.length cm) := (blk_cell HW'.out.hm 0).trans rfl
      have g2 : wr.cell? ⟨bn, 0, none⟩ = some (.slice (some ad) next.length c0) := (blk_cell HW'.out.hn 0).trans rfl
      have g3 : wr.cell? ⟨bf, 0, none⟩ = some (.func (.func 84) #[] #[.pointer (some ⟨bm, 0, none⟩), .pointer (some ⟨bn, 0, none⟩), .pointer (some ⟨bf, 0, none⟩), .pointer (some ⟨bo, 0, none⟩)]) := (blk_cell HW'.out.hf 0).trans rfl
      by_cases k0 : 0 ≤ c
      · have k0b : decide (0 ≤ c) = true := decide_eq_true k0
        by_cases k1 : c < (next.length : Int)
        · have k1b : decide (c < (next.length : Int)) = true := decide_eq_true k1
          obtain ⟨g4, _⟩ := Kd.R_celln false HW'.out.met c k0 k1
          have em : rdOf false M' c = M'.getD c.toNat true := by
            have : c.toNat < M'.length := by omega
            simp [rdOf, List.getD_eq_getElem?_getD, this]
          rw [em] at g4
          have k0t : (0 ≤ c) = True := eq_true k0
          have k1t : (c < (next.length : Int)) = True := eq_true k1
          have k2t : (c.toNat < next.length) = True := eq_true (by omega)
          cases hme : M'.getD c.toNat true with
          | false =>
            rw [hme] at g4 hq
            rw [if_pos ⟨k0, k1, rfl⟩] at hq
            obtain ⟨⟨M3, D3⟩, hq1, hq2⟩ := Option.bind_eq_some_iff.mp hq
            have HQ2 := Aside0.mk hq2
            have HQ1 := Aside0.mk hq1
            clear hq hq1 hq2 em hme hb
            have hcall := IH.out c.toNat M' D' M3 D3 (by omega) hM' HQ1.out (by
              have h2 := (dfsL_len (dfs_len next k) _ _ _ _ HQ2.out).1
              have h3 := HD.out
              simp only [List.length_append, List.length_cons, List.length_nil] at h2 h3
              omega) _ HW'.out
            rw [Int.toNat_of_nonneg k0] at hcall
            have HL := Aside0.mk hcall
            have hM3 : M3.length = next.length := (dfs_len next k _ _ _ _ HQ1.out).2.trans hM'
            clear hcall
            go_wp2_with (go_at_call 84; refine HL.out.mono ?_; rintro e W5 ⟨rfl, h5⟩; have H5 := Aside0.mk h5; clear h5)
            go_roundw
            case rel => exact ⟨j + 1, M3, D3, by go_num, hlt, hM3, HQ2, H5⟩
            case measure => simp [intOf]; omega
          | true =>
            rw [hme] at g4 hq
            rw [if_neg (by simp)] at hq
            have HQ2 := Aside0.mk hq
            clear hq em hme hb
            go_wp2
            go_roundw
            case rel => exact ⟨j + 1, M', D', by go_num, hlt, hM', HQ2, HW'⟩
            case measure => simp [intOf]; omega
        · have k1b : decide (c < (next.length : Int)) = false := decide_eq_false k1
          rw [if_neg (fun h => k1 h.2.1)] at hq
          have HQ2 := Aside0.mk hq
          clear hq hb
          go_wp2
          go_roundw
          case rel => exact ⟨j + 1, M', D', by go_num, hlt, hM', HQ2, HW'⟩
          case measure => simp [intOf]; omega
      · have k0b : decide (0 ≤ c) = false := decide_eq_false k0
        rw [if_neg (fun h => k0 h.1)] at hq
        have HQ2 := Aside0.mk hq
        clear hq hb
        go_wp2
        go_roundw
        case rel => exact ⟨j + 1, M', D', by go_num, hlt, hM', HQ2, HW'⟩
        case measure => simp [intOf]; omega
    · obtain rfl : j = cs.length := by omega
      have hq := HQ'.out
      rw [List.drop_length] at hq
      simp only [dfsL, Option.some.injEq, Prod.mk.injEq] at hq
      obtain ⟨rfl, rfl⟩ := hq
      obtain ⟨v, hv, hrv⟩ := HW'.out.ho
      have HV := Aside0.mk hv
      have HRV := Aside0.mk hrv
      have g5 : wr.cell? ⟨bo, 0, none⟩ = some v := (blk_cell hv 0).trans rfl
      clear hv hrv hlt hj
      go_wp2_with (first | ((with_reducible refine gate_builtin (b := .append) (xs := #[.tmp 39, .tmp 41]) rfl ?_); (try (refine gate_guard (by rfl) ?_; dsimp only)); at_builtin; refine Kd.R_append (Kd.int .i64) (w0 := w0) w0.heap.size rfl (.tmp 39) (.tmp 41) 27 3 (.int .i64 0) 8 rfl Try.underlying27 infoI rfl (by decide) (by omega) v D' (i : Int) [.int .i64 (i : Int)] (fun _ => True) (fun _ => False) rfl rfl ?aP (fun _ hk => hk.elim) ?aF ?aO ?aB ?aS ?aL ?_; (case aP => exact rfl); (case aB => exact HB.out); (case aF => exact fun _ _ => trivial); (case aO => exact HRV.out); (case aS => exact below_size HB.out); (case aL => have := HD.out; simp only [List.length_append, List.length_cons, List.length_nil] at this; omega); intro v1 w1 ho hb1 hg1 hat1; have q6 := box_still HV.out (by decide) HRV.out hg1; have q7 : w1.cell? ⟨bo, 0, none⟩ = some v := (blk_cell q6 0).trans rfl; have q8 := blk_frozen q6 0; have H6 := Aside0.mk (HW'.out.app HV.out HRV.out ho hb1 hg1); obtain ⟨A6, c6, e6⟩ := Kd.R_slice ho; subst e6; clear ho hb1 hg1 hat1 q6))
      refine bodyPost_end (results_none rfl _ _ _) rfl ?_
      exact ⟨rfl, by have h9 := H6.out; rw [List.length_append] at h9; exact h9⟩
end DomA
end Go.Proofs.Ytfiffhcpgojkhaa
