/- Small words that the other texts of this claim use: a block's instance as ten whole numbers; worlds in which the elder blocks are as they were. No condition. -/
import Derived.Test.YthldpihpjekleaaDoorProg
import Derived.WalkKit
import Derived.Below
import Derived.Outline
import Derived.WalkSpells
import Derived.Laws.EntriesVeiled
import Derived.Deep.RegionHeld3
import Derived.Deep.Light
import Derived.Deep.QuietTactic
import Derived.BigQuiet
import Derived.Laws.StructEq
namespace Go.Proofs.YthldpihpjekleaaDoor
open Go.RowKit
set_option linter.unusedSimpArgs false
/-- A block's instance: its ten fields. -/
structure In where
  (a0 a1 a2 a3 a4 a5 a6 a7 a8 a9 : Int)
abbrev In.v (x : In) : Value := .agg #[.int .i64 x.a0, .int .i64 x.a1, .int .i64 x.a2, .int .i64 x.a3, .int .i64 x.a4, .int .i64 x.a5, .int .i64 x.a6, .int .i64 x.a7, .int .i64 x.a8, .int .i64 x.a9]
/-- Each field is an int. -/
def In.wf (x : In) : Prop := (Lit.int .i64 x.a0).wf = true ∧ (Lit.int .i64 x.a1).wf = true ∧ (Lit.int .i64 x.a2).wf = true ∧ (Lit.int .i64 x.a3).wf = true ∧ (Lit.int .i64 x.a4).wf = true ∧ (Lit.int .i64 x.a5).wf = true ∧ (Lit.int .i64 x.a6).wf = true ∧ (Lit.int .i64 x.a7).wf = true ∧ (Lit.int .i64 x.a8).wf = true ∧ (Lit.int .i64 x.a9).wf = true
def bi (b : Bool) : Int := if b then 1 else 0
structure Aside (p : Prop) : Prop where mk :: (out : p)
theorem setCell_self {w : World} {a : Addr} {v : Value} (h : w.cell? a = some v) : w.setCell a v = w := by
  obtain ⟨heap, tape, drawn, os, output⟩ := w
  simp only [World.cell?] at h
  unfold World.setCell
  congr 1
  apply Array.ext
  · simp
  · intro i h1 h2
    rw [Array.getElem_modify]
    split
    · rename_i hi
      subst hi
      have hh : heap[a.block]? = some heap[a.block] := Array.getElem?_eq_getElem h2
      rw [hh] at h
      cases hc : heap[a.block] with
      | cells c e fr =>
        rw [hc] at h
        simp only at h ⊢
        split at h
        · cases h
        · rename_i hs
          rw [if_neg hs]
          congr 1
          apply Array.ext
          · simp
          · intro j g1 g2
            rw [Array.getElem_setIfInBounds]
            split
            · rename_i hj
              subst hj
              rw [Array.getElem?_eq_getElem g2] at h
              exact (Option.some.inj h).symm
            · rfl
      | _ => rfl
    · rfl

theorem bal {w W : World} (h : Below w.heap.size w W) (o : Obj) : Below w.heap.size w (W.alloc o) := h.alloc h.size o
theorem balN {B : Nat} {w W : World} (h : Below B w W) (hB : B ≤ w.heap.size) (o : Obj) : Below B w (W.alloc o) := h.alloc (Nat.le_trans hB h.size) o
theorem below_drewN {B : Nat} {w W : World} (h : Below B w W) (n : Nat) : Below B w (W.drewN n) := ⟨h.os, h.tape, h.output, h.size, h.block⟩
theorem below_stepI {w W w' : World} (h : Below w.heap.size w W) (hb : Below W.heap.size W w') : Below w.heap.size w w' := h.trans (hb.mono h.size)
theorem below3 (w : World) (a b c : Obj) : Below w.heap.size w (((w.alloc a).alloc b).alloc c) :=
  (((Below.refl _ _).alloc (Nat.le_refl _) a).alloc (by simp) b).alloc (by simp; omega) c
/-- What a drawn region of a law keeps: the argument's box, and that nothing elder has turned. -/
def BoxS (w0 : World) (b : Nat) (x : In) (w : World) : Prop := b < w.heap.size ∧ Below w0.heap.size w0 w ∧ w.cell? ⟨b, 0, none⟩ = some (.int .i64 x.a0) ∧ w.cell? ⟨b, 1, none⟩ = some (.int .i64 x.a1) ∧ w.cell? ⟨b, 2, none⟩ = some (.int .i64 x.a2) ∧ w.cell? ⟨b, 3, none⟩ = some (.int .i64 x.a3) ∧ w.cell? ⟨b, 4, none⟩ = some (.int .i64 x.a4) ∧ w.cell? ⟨b, 5, none⟩ = some (.int .i64 x.a5) ∧ w.cell? ⟨b, 6, none⟩ = some (.int .i64 x.a6) ∧ w.cell? ⟨b, 7, none⟩ = some (.int .i64 x.a7) ∧ w.cell? ⟨b, 8, none⟩ = some (.int .i64 x.a8) ∧ w.cell? ⟨b, 9, none⟩ = some (.int .i64 x.a9)
theorem BoxS.drew {w0 w : World} {b : Nat} {x : In} (h : BoxS w0 b x w) : BoxS w0 b x w.drew := ⟨h.1, h.2.1.drew, h.2.2⟩
theorem BoxS.call {w0 w w' : World} {b : Nat} {x : In} (hb : Below w.heap.size w w') (h : BoxS w0 b x w) : BoxS w0 b x w' :=
  ⟨Nat.lt_of_lt_of_le h.1 hb.size, h.2.1.trans (hb.mono h.2.1.size), by
    obtain ⟨h1, _, h2⟩ := h
    have hc := fun k => hb.cell (p := ⟨b, k, none⟩) h1
    simpa only [hc] using h2⟩
theorem BoxS.new (w : World) (x : In) (t : TypeId) : BoxS w w.heap.size x (w.alloc (.cells #[.int .i64 x.a0, .int .i64 x.a1, .int .i64 x.a2, .int .i64 x.a3, .int .i64 x.a4, .int .i64 x.a5, .int .i64 x.a6, .int .i64 x.a7, .int .i64 x.a8, .int .i64 x.a9] t)) :=
  ⟨by simp, bal (Below.refl _ _) _, by simp⟩
theorem eq_array_same {P : Program} {t e : TypeId} {len d : Nat} {vs : Array Value} (hu : P.underlying t = some (.array len e)) (hs : ∀ W, (sizeOf e).run P W = .ok 1 W)
    (he : ∀ i, i < len → ∃ v, (∀ W, (part e vs i).run P W = .ok v W) ∧ ∀ W, (Op.equalIn d e v v).run P W = .ok true W) (W : World) : (Op.equalIn (d + 1) t (.agg vs) (.agg vs)).run P W = .ok true W := by
  rw [Op.equalIn]
  simp only [Sem.run_bind, run_underlying hu, Result.andThen_ok, hs, Std.Legacy.Range.forIn_eq_forIn_range', Std.Legacy.Range.size, Nat.mul_one]
  have hl : ∀ i ∈ List.range' 0 ((len - 0 + 1 - 1) / 1) 1, i < len := by intro i hi; simp at hi; omega
  generalize List.range' 0 ((len - 0 + 1 - 1) / 1) 1 = l at hl
  induction l with
  | nil => simp
  | cons i l ih =>
    obtain ⟨v, h1, h2⟩ := he i (hl i (by simp))
    simp only [List.forIn_cons, Sem.run_bind, h1, h2, Result.andThen_ok, Bool.not_true, Bool.false_eq_true, if_false, Sem.run_pure]
    exact ih (fun j hj => hl j (by simp [hj]))
set_option maxRecDepth 100000 in
theorem eq10 (y0 y1 y2 y3 y4 y5 y6 y7 y8 y9 : Int) (W : World) : (Op.equalIn 9999 22 (.agg #[.int .i64 y0, .int .i64 y1, .int .i64 y2, .int .i64 y3, .int .i64 y4, .int .i64 y5, .int .i64 y6, .int .i64 y7, .int .i64 y8, .int .i64 y9]) (.agg #[.int .i64 y0, .int .i64 y1, .int .i64 y2, .int .i64 y3, .int .i64 y4, .int .i64 y5, .int .i64 y6, .int .i64 y7, .int .i64 y8, .int .i64 y9])).run Tryd.prog W = .ok true W := by
  refine eq_array_same (d := 9998) Tryd.underlying22 (fun _ => by kernel_rfl) (fun i hi => ?_) W
  have hq : ∀ (x : Int) (W : World), (Op.equalIn 9998 3 (.int .i64 x) (.int .i64 x)).run Tryd.prog W = .ok true W := fun x W => by
    rw [show (9998 : Nat) = 9997 + 1 from rfl, Op.equalIn]
    simp [run_underlying Tryd.underlying3]
  have : i = 0 ∨ i = 1 ∨ i = 2 ∨ i = 3 ∨ i = 4 ∨ i = 5 ∨ i = 6 ∨ i = 7 ∨ i = 8 ∨ i = 9 := by omega
  rcases this with rfl | rfl | rfl | rfl | rfl | rfl | rfl | rfl | rfl | rfl <;> exact ⟨_, fun W => rfl, fun W => hq _ W⟩
theorem quietAt_of_run {P : Program} {C : World → Prop} {o : Oper} {a : Act} {w : World} {v : Value} (h : (execOp a.eval o).run P w = .ok (.value v) w) : o.quietAt P a C w v := by
  unfold Oper.quietAt
  rw [h]
  exact ⟨rfl, rfl⟩
end Go.Proofs.YthldpihpjekleaaDoor
