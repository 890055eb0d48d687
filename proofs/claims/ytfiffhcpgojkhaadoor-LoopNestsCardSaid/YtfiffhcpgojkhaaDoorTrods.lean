/- What an argument is read as, kind by kind of the printed texts: from 'it reads as a datum' to a value of the kind, with what is known of it. No condition. -/
import Derived.Test.YtfiffhcpgojkhaaDoorWWords
import Derived.ChangeArms
import Derived.DataElems
import Derived.OpenShut
namespace Go.Proofs.YtfiffhcpgojkhaaDoor
open Go.RowKit Go.Proofs.YtfiffhcpgojkhaaDoorW.PrintWords
/-- What is read at type t with fuel up to n is of kind d, and Wf holds of it. -/
def TrodsAt {α : Type} (P : Program) (t : TypeId) (d : Kd α) (Wf : α → Prop) (n : Nat) : Prop :=
  ∀ (H : Type) (enc : TypeId × Value → H) (w : World) (base : Nat) (spare : Nat → Bool) (held : Bool) (m : Nat) (cs : List Value) (x : DataW H × List MemPlace), m ≤ n → DataW.trod enc P w base spare held m t cs = some x → ∃ y, d.K w y cs ∧ Wf y
section
variable {α β : Type} {P : Program} {t e : TypeId} {d : Kd α} {Wf : α → Prop} {n : Nat}
theorem TrodsAt.le {m : Nat} (h : TrodsAt P t d Wf n) (hm : m ≤ n) : TrodsAt P t d Wf m := fun H enc w base spare held k cs x hk hx => h H enc w base spare held k cs x (Nat.le_trans hk hm) hx
theorem TrodsAt.imp {Wf' : α → Prop} (h : TrodsAt P t d Wf n) (hW : ∀ y, Wf y → Wf' y) : TrodsAt P t d Wf' n := fun H enc w base spare held k cs x hk hx => by
  obtain ⟨y, h1, h2⟩ := h H enc w base spare held k cs x hk hx
  exact ⟨y, h1, hW y h2⟩
theorem trods_zero : TrodsAt P t d Wf 0 := fun H enc w base spare held k cs x hk hx => by
  obtain rfl : k = 0 := by omega
  simp [DataW.trod] at hx
theorem trods_int {k : IntKind} (hu : P.underlying t = some (.int k)) (n : Nat) : TrodsAt P t (Kd.int k) (fun z => (Lit.int k z).wf = true) n := fun H enc w base spare held m cs x _ hx => by
  obtain ⟨z, rfl, _, hz⟩ := DataW.trod_int hu hx
  exact ⟨z, rfl, hz⟩
theorem trods_bool (hu : P.underlying t = some .bool) (n : Nat) : TrodsAt P t Kd.bool (fun _ => True) n := fun H enc w base spare held m cs x _ hx => by
  obtain ⟨z, rfl, _⟩ := DataW.trod_bool hu hx
  exact ⟨z, rfl, trivial⟩
theorem trods_string (hu : P.underlying t = some .string) (n : Nat) : TrodsAt P t Kd.string (fun s => s.size ≤ 9223372036854775807) n := fun H enc w base spare held m cs x _ hx => by
  obtain ⟨z, rfl, _, hz⟩ := DataW.trod_string hu hx
  exact ⟨z, rfl, hz⟩
theorem choose_list {p : Nat → α → Prop} : ∀ (n : Nat), (∀ i, i < n → ∃ y, p i y) → ∃ ys : List α, ys.length = n ∧ ∀ i y, ys[i]? = some y → p i y
  | 0, _ => ⟨[], rfl, fun i y h => by simp at h⟩
  | n + 1, h => by
    obtain ⟨ys, h1, h2⟩ := choose_list n (fun i hi => h i (by omega))
    obtain ⟨y, hy⟩ := h n (by omega)
    refine ⟨ys ++ [y], by simp [h1], fun i z hz => ?_⟩
    rcases Nat.lt_or_ge i n with hi | hi
    · rw [List.getElem?_append_left (by omega)] at hz
      exact h2 i z hz
    · have : i = n := by
        have := (List.getElem?_eq_some_iff.1 hz).1
        simp at this
        omega
      subst this
      rw [List.getElem?_append_right (by omega)] at hz
      simp [h1] at hz
      rw [← hz]; exact hy
theorem trods_slice (hu : P.underlying t = some (.slice e)) (hsz : P.cellsOf e = d.sz) (h : TrodsAt P e d Wf n) : TrodsAt P t (Kd.slice e d) (fun xs => xs.length ≤ 9223372036854775807 ∧ ∀ x ∈ xs, Wf x) (n + 1) := fun H enc w base spare held m cs x hm hx => by
  rcases DataW.trod_slice hu hx with ⟨rfl, _⟩ | ⟨a, len, cap, elems, rest, k, rfl, rfl, _, hb, hl, hmx, hlen, hel, _, _⟩
  · exact ⟨[], ⟨none, 0, rfl, Nat.le_refl _, rfl, by simp, fun h0 => absurd h0 (by simp)⟩, by simp, fun x hx => by cases hx⟩
  · obtain ⟨ys, h1, h2⟩ := choose_list (p := fun i y => (∃ c, c.length = d.sz ∧ d.K w y c ∧ ∀ j u, c[j]? = some u → w.cell? (a.add (i * d.sz + j)) = some u) ∧ Wf y) len (fun i hi => by
      have h3 := hel i hi
      rw [List.getElem?_eq_getElem (by omega), Option.bind_eq_some_iff] at h3
      obtain ⟨c, hc, hr⟩ := h3
      obtain ⟨y, hy, hw⟩ := h H enc w base spare held k c _ (by omega) hr
      obtain ⟨_, hcl, hcc⟩ := World.cells?_some hc
      refine ⟨y, ⟨c, d.K_len hy, hy, fun j u hj => ?_⟩, hw⟩
      have hjl := (List.getElem?_eq_some_iff.1 hj).1
      have h4 := hcc j (by omega)
      rw [Addr.add_add, hsz] at h4
      rw [h4, hj])
    have hcm : cap ≤ 9223372036854775807 := hmx
    refine ⟨ys, ⟨some a, cap, by rw [h1], by omega, rfl, by omega, fun _ => ⟨a, rfl, fun j p hj => (h2 j p hj).1⟩⟩, by omega, fun x hx => ?_⟩
    obtain ⟨i, hi, hix⟩ := List.getElem_of_mem hx
    exact (h2 i x (by rw [List.getElem?_eq_getElem hi, hix])).2
theorem trods_slice' (hu : P.underlying t = some (.slice e)) (hsz : P.cellsOf e = d.sz) (h : TrodsAt P e d Wf n) : TrodsAt P t (Kd.slice e d) (fun xs => xs.length ≤ 9223372036854775807 ∧ ∀ x ∈ xs, Wf x) n := (trods_slice hu hsz h).le (by omega)
/-- Fields in line. -/
def FieldsAt (P : Program) (o : Nat) (fs : List (Nat × TypeId)) (d : Kd α) (Wf : α → Prop) (n : Nat) : Prop :=
  ∀ (H : Type) (enc : TypeId × Value → H) (w : World) (base : Nat) (spare : Nat → Bool) (held : Bool) (m : Nat) (cs : List Value), m ≤ n → (∀ f ∈ fs, ∃ x, DataW.trod enc P w base spare held m f.2 ((cs.drop f.1).take (P.cellsOf f.2)) = some x) → cs.length = o + d.sz → ∃ y, d.K w y (cs.drop o) ∧ Wf y
theorem fields_one {o : Nat} (hsz : P.cellsOf t = d.sz) (h : TrodsAt P t d Wf n) : FieldsAt P o [(o, t)] d Wf n := fun H enc w base spare held m cs hm hf hl => by
  obtain ⟨x, hx⟩ := hf (o, t) (by simp)
  rw [hsz, List.take_of_length_le (by simp; omega)] at hx
  exact h H enc w base spare held m _ x hm hx
theorem fields_cons {o o' : Nat} {fs : List (Nat × TypeId)} {b : Kd β} {Wb : β → Prop} (hsz : P.cellsOf t = d.sz) (ho : o' = o + d.sz) (h : TrodsAt P t d Wf n) (hb : FieldsAt P o' fs b Wb n) : FieldsAt P o ((o, t) :: fs) (Kd.pair d b) (fun x => Wf x.1 ∧ Wb x.2) n := fun H enc w base spare held m cs hm hf hl => by
  subst ho
  have hl' : cs.length = o + (d.sz + b.sz) := hl
  obtain ⟨x, hx⟩ := hf (o, t) (by simp)
  obtain ⟨y1, h1, w1⟩ := h H enc w base spare held m _ x hm hx
  obtain ⟨y2, h2, w2⟩ := hb H enc w base spare held m cs hm (fun f hq => hf f (List.mem_cons_of_mem _ hq)) (by omega)
  refine ⟨(y1, y2), ⟨(cs.drop o).take (P.cellsOf t), cs.drop (o + d.sz), ?_, h1, h2⟩, w1, w2⟩
  rw [hsz, ← List.drop_drop, List.take_append_drop]
theorem trods_struct {F : Array Field} {fs : List (Nat × TypeId)} (hu : P.underlying t = some (.struct F)) (hF : F.toList.map (fun f => (f.offset, f.type)) = fs) (hsz : P.cellsOf t = d.sz) (h : FieldsAt P 0 fs d Wf n) : TrodsAt P t d Wf (n + 1) := fun H enc w base spare held m cs x hm hx => by
  obtain ⟨xs, k, rfl, _, hl, hxl, hf⟩ := DataW.trod_struct hu hx
  refine h H enc w base spare held k cs (by omega) (fun f hq => ?_) (by omega)
  rw [← hF] at hq
  obtain ⟨g, hg, rfl⟩ := List.mem_map.1 hq
  obtain ⟨i, hi, hgi⟩ := List.getElem_of_mem hg
  have hi' : i < F.size := by simpa using hi
  have h3 := hf i g (by rw [Array.getElem?_eq_getElem hi', ← hgi]; simp)
  exact ⟨xs[i]'(by omega), by rw [h3, List.getElem?_eq_getElem (by omega)]⟩
theorem trods_array {len : Nat} {fs : List (Nat × TypeId)} (hu : P.underlying t = some (.array len e)) (hF : (List.range len).map (fun i => (i * P.cellsOf e, e)) = fs) (hsz : P.cellsOf t = d.sz) (h : FieldsAt P 0 fs d Wf n) : TrodsAt P t d Wf (n + 1) := fun H enc w base spare held m cs x hm hx => by
  obtain ⟨xs, k, rfl, _, hl, hxl, hf⟩ := DataW.trod_array hu hx
  refine h H enc w base spare held k cs (by omega) (fun f hq => ?_) (by omega)
  rw [← hF] at hq
  obtain ⟨i, hi, rfl⟩ := List.mem_map.1 hq
  have hi' : i < len := List.mem_range.1 hi
  have h3 := hf i hi'
  exact ⟨xs[i]'(by omega), by rw [h3, List.getElem?_eq_getElem (by omega)]⟩
theorem trods_iso {f : β → α} (g : α → β) (hfg : ∀ y, f (g y) = y) (h : TrodsAt P t d Wf n) : TrodsAt P t (Kd.iso d f) (fun x => Wf (f x)) n := fun H enc w base spare held m cs x hm hx => by
  obtain ⟨y, h1, h2⟩ := h H enc w base spare held m cs x hm hx
  exact ⟨g y, by show d.K w (f (g y)) cs; rw [hfg]; exact h1, by show Wf (f (g y)); rw [hfg]; exact h2⟩
theorem trods_fix {F : Kd α → Kd α} {sz : Nat} {E : List Nat} {hs : ∀ n, (Kd.upto F sz E n).sz = sz} {hE : ∀ n q, q ∈ (Kd.upto F sz E n).E → q ∈ E} (h : ∀ n d, d.sz = sz → TrodsAt P t d Wf n → TrodsAt P t (F d) Wf (n + 1)) (n : Nat) : TrodsAt P t (Kd.fix F sz E hs hE) Wf n := by
  have key : ∀ n, TrodsAt P t (Kd.upto F sz E n) Wf n := by
    intro n
    induction n with
    | zero => exact trods_zero
    | succ n ih => exact h n _ (hs n) ih
  intro H enc w base spare held m cs x hm hx
  obtain ⟨y, h1, h2⟩ := key n H enc w base spare held m cs x hm hx
  exact ⟨y, ⟨n, h1⟩, h2⟩
/-- A whole argument. -/
theorem TrodsAt.arg {H : Type} {enc : TypeId × Value → H} {w : World} {base : Nat} {spare : Nat → Bool} {held : Bool} {v : Value} {x : DataW H} {ps : List MemPlace} (h : ∀ n, TrodsAt P t d Wf n) (hx : DataW.Trod enc P w base spare held t v x ps) : ∃ y, d.K w y v.cells.toList ∧ Wf y := by
  obtain ⟨m, hm⟩ := hx
  exact h m H enc w base spare held m _ _ (Nat.le_refl _) hm
end
/-- Short names for long lists of marks (wip/minify.py). -/
abbrev Tt : Bool := true
abbrev Ff : Bool := false
theorem setCell_drewN0 (w : World) (n : Nat) (a : Addr) (v : Value) : (w.drewN n).setCell a v = (w.setCell a v).drewN n := rfl
/-! A box's cells, and its marks, at once (wip/minify.py). -/
theorem box2_ {w : World} {g t : Nat} {c0 c1 : Value} (h : w.heap[g]? = some (.cells #[c0, c1] t (0, 0))) : w.cell? ⟨g, 0, none⟩ = some c0 ∧ w.cell? ⟨g, 1, none⟩ = some c1 := ⟨(blk_cell h 0).trans rfl, (blk_cell h 1).trans rfl⟩
theorem frz2_ {w : World} {g t : Nat} {c0 c1 : Value} (h : w.heap[g]? = some (.cells #[c0, c1] t (0, 0))) : w.frozen? ⟨g, 0, none⟩ = false ∧ w.frozen? ⟨g, 1, none⟩ = false := ⟨blk_frozen h 0, blk_frozen h 1⟩
theorem box3_ {w : World} {g t : Nat} {c0 c1 c2 : Value} (h : w.heap[g]? = some (.cells #[c0, c1, c2] t (0, 0))) : w.cell? ⟨g, 0, none⟩ = some c0 ∧ w.cell? ⟨g, 1, none⟩ = some c1 ∧ w.cell? ⟨g, 2, none⟩ = some c2 := ⟨(blk_cell h 0).trans rfl, (blk_cell h 1).trans rfl, (blk_cell h 2).trans rfl⟩
theorem frz3_ {w : World} {g t : Nat} {c0 c1 c2 : Value} (h : w.heap[g]? = some (.cells #[c0, c1, c2] t (0, 0))) : w.frozen? ⟨g, 0, none⟩ = false ∧ w.frozen? ⟨g, 1, none⟩ = false ∧ w.frozen? ⟨g, 2, none⟩ = false := ⟨blk_frozen h 0, blk_frozen h 1, blk_frozen h 2⟩
theorem box4_ {w : World} {g t : Nat} {c0 c1 c2 c3 : Value} (h : w.heap[g]? = some (.cells #[c0, c1, c2, c3] t (0, 0))) : w.cell? ⟨g, 0, none⟩ = some c0 ∧ w.cell? ⟨g, 1, none⟩ = some c1 ∧ w.cell? ⟨g, 2, none⟩ = some c2 ∧ w.cell? ⟨g, 3, none⟩ = some c3 := ⟨(blk_cell h 0).trans rfl, (blk_cell h 1).trans rfl, (blk_cell h 2).trans rfl, (blk_cell h 3).trans rfl⟩
theorem frz4_ {w : World} {g t : Nat} {c0 c1 c2 c3 : Value} (h : w.heap[g]? = some (.cells #[c0, c1, c2, c3] t (0, 0))) : w.frozen? ⟨g, 0, none⟩ = false ∧ w.frozen? ⟨g, 1, none⟩ = false ∧ w.frozen? ⟨g, 2, none⟩ = false ∧ w.frozen? ⟨g, 3, none⟩ = false := ⟨blk_frozen h 0, blk_frozen h 1, blk_frozen h 2, blk_frozen h 3⟩
theorem box5_ {w : World} {g t : Nat} {c0 c1 c2 c3 c4 : Value} (h : w.heap[g]? = some (.cells #[c0, c1, c2, c3, c4] t (0, 0))) : w.cell? ⟨g, 0, none⟩ = some c0 ∧ w.cell? ⟨g, 1, none⟩ = some c1 ∧ w.cell? ⟨g, 2, none⟩ = some c2 ∧ w.cell? ⟨g, 3, none⟩ = some c3 ∧ w.cell? ⟨g, 4, none⟩ = some c4 := ⟨(blk_cell h 0).trans rfl, (blk_cell h 1).trans rfl, (blk_cell h 2).trans rfl, (blk_cell h 3).trans rfl, (blk_cell h 4).trans rfl⟩
theorem frz5_ {w : World} {g t : Nat} {c0 c1 c2 c3 c4 : Value} (h : w.heap[g]? = some (.cells #[c0, c1, c2, c3, c4] t (0, 0))) : w.frozen? ⟨g, 0, none⟩ = false ∧ w.frozen? ⟨g, 1, none⟩ = false ∧ w.frozen? ⟨g, 2, none⟩ = false ∧ w.frozen? ⟨g, 3, none⟩ = false ∧ w.frozen? ⟨g, 4, none⟩ = false := ⟨blk_frozen h 0, blk_frozen h 1, blk_frozen h 2, blk_frozen h 3, blk_frozen h 4⟩
section
open Go.ChangeShapes Go.WideShapes
variable {α : Type} {P : Program} {t e : TypeId} {d : Kd α} {Wf : α → Prop} {H : Type} {enc : TypeId × Value → H} {w : World} {base : Nat} {spare : Nat → Bool} {held : Bool} {r : Reach} {b0 : Nat} {v : Value} {x : DataW H} {ps : List MemPlace}
theorem open_struct_kd {fs : Array Field} (hs : P.underlying t = some (.struct fs)) (h : ∀ n, TrodsAt P t d Wf n) (hv : Value.okWide P w r b0 t v) (hx : DataW.Trod enc P w base spare held t v x ps) : ∃ (y : α) (cs : List Value), v = .agg cs.toArray ∧ d.K w y cs ∧ Wf y := by
  obtain ⟨cs, rfl, _⟩ := okWide_struct hs hv
  obtain ⟨y, h1, h2⟩ := TrodsAt.arg h hx
  exact ⟨y, cs.toList, by simp, h1, h2⟩
theorem open_array_kd {len : Nat} (hs : P.underlying t = some (.array len e)) (h : ∀ n, TrodsAt P t d Wf n) (hv : Value.okWide P w r b0 t v) (hx : DataW.Trod enc P w base spare held t v x ps) : ∃ (y : α) (cs : List Value), v = .agg cs.toArray ∧ d.K w y cs ∧ Wf y := by
  simp only [Value.okWide, hs] at hv
  obtain ⟨cs, rfl, _⟩ := hv
  obtain ⟨y, h1, h2⟩ := TrodsAt.arg h hx
  exact ⟨y, cs.toList, by simp, h1, h2⟩
theorem open_slice_kd (hs : P.underlying t = some (.slice e)) (hsz : P.cellsOf e = d.sz) (h : ∀ n, TrodsAt P e d Wf n) (hv : Value.okWide P w r b0 t v) (hx : DataW.Trod enc P w base spare held t v x ps) : ∃ (y : List α) (A : Option Addr) (c : Nat), v = .slice A y.length c ∧ y.length ≤ c ∧ d.C w A y.length y ∧ (y.length ≤ 9223372036854775807 ∧ ∀ x ∈ y, Wf x) := by
  obtain ⟨a, len, cap, rfl⟩ := okWide_slice hs hv
  obtain ⟨y, ⟨A, c, h1, h2, h3⟩, h4⟩ := TrodsAt.arg (fun n => trods_slice' hs hsz (h n)) hx
  have h5 : Value.slice a len cap = Value.slice A y.length c := by simpa [Value.cells] using h1
  exact ⟨y, A, c, h5, h2, h3, h4⟩
end
end Go.Proofs.YtfiffhcpgojkhaaDoor
