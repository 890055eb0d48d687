/- A package-level table that reads as a literal datum holds the cells that the datum spells. No condition. -/
import Derived.Test.YtfiffhcpgojkhaaDoorProg
import Derived.ProofKit
import Derived.KernelRfl
namespace Go.Proofs.YtfiffhcpgojkhaaDoor
open Go
section
variable {H : Type} {enc : TypeId × Value → H} {P : Program} {w : World} {base : Nat} {spare : Nat → Bool} {held : Bool}
/-- The cells of parts that lie one behind the other: (where each begins, its type). -/
def litsF (P : Program) (L : TypeId → DataW H → Option (List Value)) : Nat → List (Nat × TypeId) → List (DataW H) → Option (List Value)
  | _, [], [] => some []
  | o, (o', t) :: fs, d :: ds => if o' = o then (L t d).bind fun a => if a.length = P.cellsOf t then (litsF P L (o + P.cellsOf t) fs ds).map (a ++ ·) else none else none
  | _, _, _ => none
/-- The cells of a datum of whole numbers, bools and texts. -/
def lits (P : Program) : Nat → TypeId → DataW H → Option (List Value)
  | 0, _, _ => none
  | g + 1, t, d =>
    match P.underlying t, d with
    | some .bool, .lit (.bool b) => some [.bool b]
    | some (.int k), .lit (.int k' n) => if k' = k then some [.int k n] else none
    | some .string, .lit (.string l) => some [.string ⟨l.toArray⟩]
    | some (.struct fs), .agg ds => (litsF P (lits P g) 0 (fs.toList.map fun f => (f.offset, f.type)) ds).bind fun vs => if vs.length = P.cellsOf t then some vs else none
    | some (.array n e), .agg ds => (litsF P (lits P g) 0 ((List.range n).map fun i => (i * P.cellsOf e, e)) ds).bind fun vs => if vs.length = P.cellsOf t then some vs else none
    | _, _ => none
theorem litsF_cells {L : TypeId → DataW H → Option (List Value)} {m : Nat} (hL : ∀ t cs x vs, DataW.trod enc P w base spare held m t cs = some x → L t x.1 = some vs → cs = vs) (cs : List Value) :
    ∀ (fs : List (Nat × TypeId)) (o : Nat) (xs : List (DataW H × List MemPlace)) (vs : List Value), fs.mapM (fun f => DataW.trod enc P w base spare held m f.2 ((cs.drop f.1).take (P.cellsOf f.2))) = some xs →
      litsF P L o fs (xs.map (·.1)) = some vs → cs.length = o + vs.length → cs.drop o = vs
  | [], o, xs, vs, hx, hv, hl => by
    simp at hx
    subst hx
    simp [litsF] at hv
    subst hv
    simp at hl
    simp [hl]
  | (o', t) :: fs, o, xs, vs, hx, hv, hl => by
    simp only [List.mapM_cons, Option.bind_eq_bind, Option.bind_eq_some_iff, Option.pure_def, Option.some.injEq] at hx
    obtain ⟨x, h1, xs', h2, rfl⟩ := hx
    simp only [List.map_cons, litsF] at hv
    split at hv
    · rename_i ho
      subst ho
      simp only [Option.bind_eq_some_iff] at hv
      obtain ⟨a, ha, hv⟩ := hv
      split at hv
      · rename_i hal
        simp only [Option.map_eq_some_iff] at hv
        obtain ⟨r, hr, rfl⟩ := hv
        have e1 := hL _ _ _ _ h1 ha
        rw [List.length_append] at hl
        have e2 := litsF_cells hL cs fs (o' + P.cellsOf t) xs' r h2 hr (by omega)
        rw [← List.take_append_drop (P.cellsOf t) (cs.drop o'), e1, List.drop_drop, e2]
      · cases hv
    · cases hv
theorem lits_cells : ∀ (g m : Nat) (t : TypeId) (cs : List Value) (x : DataW H × List MemPlace) (vs : List Value), DataW.trod enc P w base spare held m t cs = some x → lits P g t x.1 = some vs → cs = vs
  | 0, _, _, _, _, _, _, h => by simp [lits] at h
  | g + 1, 0, _, _, _, _, h, _ => by simp [DataW.trod] at h
  | g + 1, m + 1, t, cs, x, vs, h, hv => by
    have hL := fun t cs x vs => lits_cells g m t cs x vs
    unfold lits at hv
    split at hv
    · rename_i b hu hd
      obtain ⟨b', rfl, rfl⟩ := DataW.trod_bool hu h
      simp at hd; subst hd
      simpa using hv
    · rename_i k k' n hu hd
      obtain ⟨n', rfl, rfl, _⟩ := DataW.trod_int hu h
      simp at hd
      obtain ⟨rfl, rfl⟩ := hd
      simpa using hv
    · rename_i l hu hd
      obtain ⟨s, rfl, rfl, _⟩ := DataW.trod_string hu h
      simp at hd; subst hd
      simpa using hv
    · rename_i fs ds hu hd
      simp only [Option.bind_eq_some_iff] at hv
      obtain ⟨us, hus, hv⟩ := hv
      split at hv
      · rename_i hlen
        simp only [Option.some.injEq] at hv
        subst hv
        unfold DataW.trod at h
        rw [hu] at h
        simp only at h
        split at h
        · rename_i hcl
          simp only [Option.map_eq_some_iff] at h
          obtain ⟨xs, hx, rfl⟩ := h
          simp only [DataW.agg.injEq] at hd
          subst hd
          have := litsF_cells hL cs (fs.toList.map fun f => (f.offset, f.type)) 0 xs us (by rw [List.mapM_map]; exact hx) hus (by omega)
          simpa using this
        · cases h
      · cases hv
    · rename_i n e ds hu hd
      simp only [Option.bind_eq_some_iff] at hv
      obtain ⟨us, hus, hv⟩ := hv
      split at hv
      · rename_i hlen
        simp only [Option.some.injEq] at hv
        subst hv
        unfold DataW.trod at h
        rw [hu] at h
        simp only at h
        split at h
        · rename_i hcl
          simp only [Option.map_eq_some_iff] at h
          obtain ⟨xs, hx, rfl⟩ := h
          simp only [DataW.agg.injEq] at hd
          subst hd
          have := litsF_cells hL cs ((List.range n).map fun i => (i * P.cellsOf e, e)) 0 xs us (by rw [List.mapM_map]; exact hx) hus (by omega)
          simpa using this
        · cases h
      · cases hv
    · cases hv
end
end Go.Proofs.YtfiffhcpgojkhaaDoor
