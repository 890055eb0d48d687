/- An argument of type Inst, opened. No condition. -/
import Derived.Test.YtgmfbmfacodmpaaProg
import Derived.OpenShut
import Derived.ProofKit
import Derived.Lib.SmallJoins
import Derived.Test.YtgmfbmfacodmpaaBase
namespace Go.Proofs.Ytgmfbmfacodmpaa
open Go.ChangeShapes Go.WideShapes Go.ChangeAt Go.RowKit Go.Joins
theorem array10 {α : Type} {cs : Array α} (h : cs.size = 10) : ∃ c0 c1 c2 c3 c4 c5 c6 c7 c8 c9, cs = #[c0, c1, c2, c3, c4, c5, c6, c7, c8, c9] := by
  obtain ⟨l⟩ := cs
  match l, h with
  | [c0, c1, c2, c3, c4, c5, c6, c7, c8, c9], _ => exact ⟨c0, c1, c2, c3, c4, c5, c6, c7, c8, c9, rfl⟩
/-- An instance's ten cells, read as data, are ten whole numbers. -/
theorem inst_cells {H : Type} {enc : TypeId × Value → H} {w : World} {base : Nat} {spare : Nat → Bool} {held : Bool} {fuel : Nat} {c0 c1 c2 c3 c4 c5 c6 c7 c8 c9 : Value} {y : DataW H × List MemPlace}
    (h : DataW.trod enc Try.prog w base spare held fuel 24 [c0, c1, c2, c3, c4, c5, c6, c7, c8, c9] = some y) : ∃ x : In, [c0, c1, c2, c3, c4, c5, c6, c7, c8, c9] = [.int .i64 x.a0, .int .i64 x.a1, .int .i64 x.a2, .int .i64 x.a3, .int .i64 x.a4, .int .i64 x.a5, .int .i64 x.a6, .int .i64 x.a7, .int .i64 x.a8, .int .i64 x.a9] ∧ x.wf := by
  obtain ⟨y0, n, _, _, h0⟩ := trod_struct1 Try.underlying24 h
  have hC : Try.prog.cellsOf 22 = 10 := by kernel_rfl
  have hC1 : Try.prog.cellsOf 3 = 1 := by kernel_rfl
  simp only [hC, List.drop_zero, List.take_succ_cons, List.take_zero] at h0
  obtain ⟨xs, m, _, _, _, hlen, hf⟩ := DataW.trod_array Try.underlying22 h0
  have hi : ∀ i c, i < 10 → [c0, c1, c2, c3, c4, c5, c6, c7, c8, c9][i]? = some c → ∃ a : Int, c = .int .i64 a ∧ (Lit.int .i64 a).wf = true := by
    intro i c hi hc
    have hq := hf i hi
    rw [hC1, Nat.mul_one, List.getElem?_eq_getElem (by omega)] at hq
    have : ([c0, c1, c2, c3, c4, c5, c6, c7, c8, c9].drop i).take 1 = [c] := by
      have hlt : i < [c0, c1, c2, c3, c4, c5, c6, c7, c8, c9].length := by simpa using hi
      rw [List.drop_eq_getElem_cons hlt, List.take_succ_cons, List.take_zero]
      rw [List.getElem?_eq_getElem hlt] at hc
      rw [Option.some.inj hc]
    rw [this] at hq
    obtain ⟨a, e0, _, wa⟩ := DataW.trod_int Try.underlying3 hq
    exact ⟨a, by simpa using e0, wa⟩
  obtain ⟨x0, rfl, w0⟩ := hi 0 c0 (by decide) rfl
  obtain ⟨x1, rfl, w1⟩ := hi 1 c1 (by decide) rfl
  obtain ⟨x2, rfl, w2⟩ := hi 2 c2 (by decide) rfl
  obtain ⟨x3, rfl, w3⟩ := hi 3 c3 (by decide) rfl
  obtain ⟨x4, rfl, w4⟩ := hi 4 c4 (by decide) rfl
  obtain ⟨x5, rfl, w5⟩ := hi 5 c5 (by decide) rfl
  obtain ⟨x6, rfl, w6⟩ := hi 6 c6 (by decide) rfl
  obtain ⟨x7, rfl, w7⟩ := hi 7 c7 (by decide) rfl
  obtain ⟨x8, rfl, w8⟩ := hi 8 c8 (by decide) rfl
  obtain ⟨x9, rfl, w9⟩ := hi 9 c9 (by decide) rfl
  exact ⟨⟨x0, x1, x2, x3, x4, x5, x6, x7, x8, x9⟩, rfl, w0, w1, w2, w3, w4, w5, w6, w7, w8, w9⟩
theorem open_inst {H : Type} {enc : TypeId × Value → H} {w : World} {base : Nat} {spare : Nat → Bool} {held : Bool} {r : Reach} {b0 : Nat} {v : Value} {d : DataW H} {p : List MemPlace}
    (hv : Value.okWide Try.prog w r b0 24 v) (h : DataW.Trod enc Try.prog w base spare held 24 v d p) : ∃ x : In, v = x.v ∧ x.wf := by
  obtain ⟨cs, rfl, hsz⟩ := okWide_struct Try.underlying24 hv
  have hC : Try.prog.cellsOf 24 = 10 := by kernel_rfl
  obtain ⟨c0, c1, c2, c3, c4, c5, c6, c7, c8, c9, rfl⟩ := array10 (hsz.trans hC)
  obtain ⟨fuel, hf⟩ := h
  obtain ⟨x, hx, wx⟩ := inst_cells hf
  refine ⟨x, ?_, wx⟩
  unfold In.v
  rw [← hx]
end Go.Proofs.Ytgmfbmfacodmpaa
