/- Small facts on flags and on what a row owns. No condition. -/
import Derived.Test.YtfiffhcpgojkhaaDomB
namespace Go.Proofs.Ytfiffhcpgojkhaa
open Go.RowKit Go.Proofs.YtfiffhcpgojkhaaW.PrintWords Go.Proofs.YtfiffhcpgojkhaaW.PrintLast Go.Proofs.YtfiffhcpgojkhaaW.PrintMore Go.Proofs.Ytfiffhcpgojkhaa.DomF DomA
set_option linter.unusedVariables false
set_option linter.unusedSimpArgs false
/-- A flag as a number. -/
def DomA.flag (n : Nat) : Bool := decide (n = 1)
theorem DomA.flag_of (m : Bool) : ∃ n, DomA.flag n = m := by cases m; exact ⟨0, rfl⟩; exact ⟨1, rfl⟩
theorem DomA.infoS : (Try.prog.info? 27).map (fun i => (i.zero, i.size, i.bytes)) = some (some (.slice none 0 0), 1, 24) := by kernel_rfl
theorem DomA.reokR {w w' : World} {base : Nat} {ok ok' : Nat → Prop} {v : Value} {xs : List Int} (h : Kd.R (Kd.int .i64) 3 w base ok v xs) (hk : ∀ k, v.ownBlock = some k → ok' k) : Kd.R (Kd.int .i64) 3 w base ok' v xs := Kd.R_reok rfl h hk
theorem DomA.ownLt {w : World} {base : Nat} {ok : Nat → Prop} {v : Value} {xs : List Int} (h : Kd.R (Kd.int .i64) 3 w base ok v xs) (k : Nat) (hk : v.ownBlock = some k) : k < w.heap.size := by
  obtain ⟨cs, hc⟩ := Kd.R_typed h k hk
  exact blk_lt hc
theorem DomA.order_pos {l0 : List (List Int)} {ord : List Int} (h : dom_Order.f l0 = some ord) (h0 : ord.length ≠ 0) : 0 < l0.length := by
  unfold dom_Order.f at h
  split at h
  rotate_left
  · cases h
  obtain ⟨r', ho, h⟩ := Option.bind_eq_some_iff.mp h
  split at h
  rotate_left
  · cases h
  obtain rfl := Option.some.inj h
  by_cases hl : l0.length = 0
  · unfold orderF at ho
    rw [if_pos hl] at ho
    obtain rfl := Option.some.inj ho
    exact absurd rfl h0
  · omega
theorem DomA.order_guard {l0 : List (List Int)} {ord : List Int} (h : dom_Order.f l0 = some ord) : ord.length ≤ 17592186044416 ∧ ∀ i, (rdL l0 i).length < 4611686018427387904 := by
  unfold dom_Order.f at h
  split at h
  rotate_left
  · cases h
  rename_i hg
  obtain ⟨r', ho, h⟩ := Option.bind_eq_some_iff.mp h
  split at h
  rotate_left
  · cases h
  rename_i hg3
  obtain rfl := Option.some.inj h
  refine ⟨hg3, fun i => ?_⟩
  unfold rdL
  by_cases hi : i.toNat < l0.length
  · have := List.all_eq_true.mp hg.2 (l0.getD i.toNat []) (by simp [List.getD_eq_getElem?_getD, hi])
    simpa using this
  · simp [List.getD_eq_getElem?_getD, hi]
end Go.Proofs.Ytfiffhcpgojkhaa
