/- slices.Sort and slices.Compact at []int, in the printed texts' form: a row of the call's own that is handed over. No condition but that the row is short. -/
import Derived.Test.YtfiffhcpgojkhaaDoorShelf
import Derived.Test.YtfiffhcpgojkhaaDoorWWords
import Derived.Sort.OwnSortedInts
import Derived.Lib.OwnBridge
namespace Go.Proofs.YtfiffhcpgojkhaaDoor
open Go.RowKit Go.Proofs.YtfiffhcpgojkhaaDoorW.PrintWords Go.Proofs.YtfiffhcpgojkhaaDoorW.PrintLast Go.Proofs.YtfiffhcpgojkhaaDoorW.PrintMore
set_option linter.unusedVariables false
def slices_Sort_int_int.f (l0 : List Int) : Option (List Int) := if l0.length < 4611686018427387904 then some (l0.mergeSort fun x y => decide (x ≤ y)) else none
def slices_Compact_int_int.f (l0 : List Int) : Option (List Int) := if l0.length < 4611686018427387904 then some (Lib.compact l0) else none
theorem slices_Sort_int_int.calls (P0_ : Nat → Prop) (u9000_ : Value) (l0 : List Int) (r : List Int) (w0 w : World) (hB : Below w0.heap.size w0 w) (ho0 : Kd.R (Kd.int .i64) 3 w w0.heap.size P0_ u9000_ l0) (h : slices_Sort_int_int.f l0 = some r) :
    Calls Tryd.prog 23 #[u9000_] w fun e w' => e = .returned (.tuple #[]) ∧ Kd.R (Kd.int .i64) 3 w' w0.heap.size (fun k_ => (P0_ k_ ∨ w.heap.size ≤ k_)) u9000_ r ∧ Below w0.heap.size w0 w' ∧ Kept w w' (fun k_ => P0_ k_) := by
  unfold slices_Sort_int_int.f at h
  split at h
  rotate_left
  · cases h
  rename_i hlen
  have hr := (Option.some.inj h).symm
  have own := Kd.own_of_R ho0
  rcases own.2 with ⟨rfl, hn⟩ | ⟨g, cap, cur, rfl, hbase, hg, hle, hcap, hsz, ht⟩
  · have e0 : l0 = [] := List.eq_nil_of_length_eq_zero hn
    subst e0
    rw [List.mergeSort_nil] at hr
    subst hr
    refine (Tryd.slices_Sort_int_none none 0 w).mono ?_
    rintro e w' ⟨rfl, rfl⟩
    exact ⟨rfl, Kd.R_nil _ _ _ _ _, hB, Kept.refl _ _⟩
  · have hlt : g < w.heap.size := (Array.getElem?_eq_some_iff.1 hg).1
    rw [Nat.mul_one] at ht
    refine (Tryd.slices_Sort_int g 0 cap l0 w (holds_of_blockI hg ht) hlt hlen).mono ?_
    rintro e w' ⟨rfl, n, os, rfl⟩
    have hl : r.length = l0.length := by rw [hr, List.length_mergeSort]
    have hgr : w.grownBy (Sort.grow (Sort.putRow (Value.int .i64) (Sort.ahead w n) g 0 (l0.mergeSort fun x y => decide (x ≤ y)).toArray) os) (some g) := grownBy_sortedI _
    rw [← hr] at hgr ⊢
    refine ⟨rfl, ?_, hB.grown hgr hB.size (fun k e => by injection e with e; omega), Kept.of_grown hgr (Kept.refl _ _) (fun k e => by injection e with e; subst e; exact .inl (ho0.1 g rfl))⟩
    have ho := ownsRow_sortedI (w := w) (base := w0.heap.size) (n := n) (os := os) (ts := r) hl hbase hg hle hcap hsz
    rw [← hl] at ho ⊢
    exact Kd.R_of_own ho (fun k e => .inl (ho0.1 k (by rw [← hl]; exact e)))
theorem slices_Compact_int_int.calls (P0_ : Nat → Prop) (u9000_ : Value) (l0 : List Int) (r : List Int) (w0 w : World) (hB : Below w0.heap.size w0 w) (ho0 : Kd.R (Kd.int .i64) 3 w w0.heap.size P0_ u9000_ l0) (h : slices_Compact_int_int.f l0 = some r) :
    Calls Tryd.prog 24 #[u9000_] w fun e w' => ∃ v0_ : Value, e = .returned (v0_) ∧ Kd.R (Kd.int .i64) 3 w' w0.heap.size (fun k_ => (P0_ k_ ∨ w.heap.size ≤ k_)) v0_ r ∧ Below w0.heap.size w0 w' ∧ Kept w w' (fun k_ => P0_ k_) := by
  unfold slices_Compact_int_int.f at h
  split at h
  rotate_left
  · cases h
  rename_i hlen
  have hr := (Option.some.inj h).symm
  have own := Kd.own_of_R ho0
  rcases own.2 with ⟨rfl, hn⟩ | ⟨g, cap, cur, rfl, hbase, hg, hle, hcap, hsz, ht⟩
  · have e0 : l0 = [] := List.eq_nil_of_length_eq_zero hn
    subst e0
    subst hr
    refine (Tryd.slices_Compact_int_empty none 0 w).mono ?_
    rintro e w' ⟨rfl, rfl⟩
    exact ⟨_, rfl, Kd.R_nil _ _ _ _ _, hB, Kept.refl _ _⟩
  · have hlt : g < w.heap.size := (Array.getElem?_eq_some_iff.1 hg).1
    have hcl : (Lib.compact l0).length ≤ l0.length := Lib.compact_length_le l0
    rw [Nat.mul_one] at ht
    refine (Tryd.slices_Compact_int g 0 cap l0 w (holds_of_blockI hg ht) (by omega) hle).mono ?_
    rintro e w' ⟨rfl, q, rfl⟩
    have hB2 : Below w0.heap.size w0 (Sort.putRow (Value.int .i64) (Sort.ahead w q) g 0 (Lib.compact l0 ++ List.replicate (l0.length - (Lib.compact l0).length) 0).toArray) := Lib.below_putRow hB hbase
    refine ⟨_, rfl, ?_, hB2, ⟨by simp [Sort.putRow, Sort.mapBlock, Sort.ahead], fun i hi hn => ?_⟩⟩
    · have ho := Lib.ownsRow_putRow (w := w) (base := w0.heap.size) (g := g) (n := l0.length) (cap := cap) (q := q) (k := (Lib.compact l0).length) (zs := l0) (ys := Lib.compact l0 ++ List.replicate (l0.length - (Lib.compact l0).length) 0) own (by rw [List.length_append, List.length_replicate]; omega) hcl
      rw [List.take_left] at ho
      rw [hr]
      exact Kd.R_of_own ho (fun k e => .inl (ho0.1 k e))
    · have hne : g ≠ i := fun e => hn (e ▸ ho0.1 g rfl)
      simp [Sort.putRow, Sort.mapBlock, Sort.ahead, Array.getElem?_modify, hne]
end Go.Proofs.YtfiffhcpgojkhaaDoor
