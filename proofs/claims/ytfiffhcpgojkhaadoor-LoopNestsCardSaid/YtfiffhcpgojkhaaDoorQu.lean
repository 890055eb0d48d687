/- A queue: a slice of ints into a block of the call's own, from some place on; its head is taken, something is appended. No condition but that it is short. -/
import Derived.Test.YtfiffhcpgojkhaaDoorDomE
import Derived.Maps.AppendAt
import Derived.Test.YtfiffhcpgojkhaaDoorProg
import Derived.Maps.GroupsBeside
import Derived.Maps.Views
import Derived.Deep.Draws
import Derived.Test.YtfiffhcpgojkhaaDoorWWords
namespace Go.Proofs.YtfiffhcpgojkhaaDoor
open Go.RowKit Go.Proofs.YtfiffhcpgojkhaaDoorW.PrintWords Go.Proofs.YtfiffhcpgojkhaaDoorW.PrintLast Go.Proofs.YtfiffhcpgojkhaaDoorW.PrintMore
set_option linter.unusedVariables false
set_option linter.unusedSimpArgs false
namespace Qu
/-- The slice holds xs. -/
def R (W : World) (base : Nat) (v : Value) (xs : List Int) : Prop :=
  (v = .slice none 0 0 ∧ xs = []) ∨ ∃ g o cap cur, v = .slice (some ⟨g, o, none⟩) xs.length cap ∧ base ≤ g ∧ W.heap[g]? = some (.cells cur 3 (0, 0)) ∧ xs.length ≤ cap ∧ cap ≤ maxLen ∧ o + cap ≤ cur.size ∧ (cur.toList.drop o).take xs.length = xs.map (Value.int .i64)
theorem R.nil (W : World) (base : Nat) : R W base (.slice none 0 0) [] := .inl ⟨rfl, rfl⟩
theorem R.kept {W w1 : World} {base : Nat} {v : Value} {xs : List Int} {row : Option Nat} (h : R W base v xs) (hg : W.grownBy w1 row) (hne : ∀ k, v.ownBlock = some k → some k ≠ row) : R w1 base v xs := by
  rcases h with h | ⟨g, o, cap, cur, rfl, hb, hc, h1, h2, h3, h4⟩
  · exact .inl h
  · exact .inr ⟨g, o, cap, cur, rfl, hb, blk_grown hc hg (hne g rfl), h1, h2, h3, h4⟩
theorem R.typed {W : World} {base : Nat} {v : Value} {xs : List Int} (h : R W base v xs) : ∀ k, v.ownBlock = some k → base ≤ k ∧ ∃ cells, W.heap[k]? = some (.cells cells 3 (0, 0)) := by
  rcases h with ⟨rfl, _⟩ | ⟨g, o, cap, cur, rfl, hb, hc, h1, h2, h3, h4⟩
  · intro k e; cases e
  · intro k e; cases e; exact ⟨hb, cur, hc⟩
theorem R.form {W : World} {base : Nat} {v : Value} {xs : List Int} (h : R W base v xs) : ∃ A c, v = .slice A xs.length c := by
  rcases h with ⟨rfl, rfl⟩ | ⟨g, o, cap, cur, rfl, hb, hc, h1, h2, h3, h4⟩
  · exact ⟨_, _, rfl⟩
  · exact ⟨_, _, rfl⟩
theorem cells_at {W : World} {g o : Nat} {cur : Array Value} {vs : List Value} (hc : W.heap[g]? = some (.cells cur 3 (0, 0))) (h4 : (cur.toList.drop o).take vs.length = vs) (j : Nat) (u : Value) (hj : vs[j]? = some u) : W.cell? ((⟨g, o, none⟩ : Addr).add j) = some u := by
  have hlt : j < vs.length := (List.getElem?_eq_some_iff.1 hj).1
  rw [← h4, List.getElem?_take_of_lt hlt, List.getElem?_drop, Array.getElem?_toList] at hj
  rw [Addr.add_lit]
  simp only [World.cell?, hc, Option.isSome_none, Bool.false_eq_true, if_false]
  exact hj
theorem R.cons {W : World} {base : Nat} {v : Value} {x : Int} {xs : List Int} (h : R W base v (x :: xs)) : ∃ g o cap, v = .slice (some ⟨g, o, none⟩) (xs.length + 1) cap ∧ xs.length + 1 ≤ cap ∧ cap ≤ maxLen ∧ W.cell? ⟨g, o, none⟩ = some (.int .i64 x) ∧
    (cap = 1 → R W base (.slice (some ⟨g, o, none⟩) xs.length (cap - 1)) xs) ∧ (cap ≠ 1 → R W base (.slice (some ⟨g, o + 1, none⟩) xs.length (cap - 1)) xs) := by
  rcases h with ⟨_, h⟩ | ⟨g, o, cap, cur, rfl, hb, hc, h1, h2, h3, h4⟩
  · cases h
  · have h5 := cells_at hc (vs := (x :: xs).map (Value.int .i64)) (by rw [List.length_map]; exact h4) 0 _ rfl
    refine ⟨g, o, cap, rfl, h1, h2, by simpa [Addr.add_lit] using h5, fun e => ?_, fun e => ?_⟩
    · subst e
      have : xs = [] := List.eq_nil_of_length_eq_zero (by simp only [List.length_cons] at h1; omega)
      subst this
      exact .inr ⟨g, o, 0, cur, rfl, hb, hc, Nat.le_refl _, by omega, by omega, rfl⟩
    · have hp : 1 ≤ cap := by simp only [List.length_cons] at h1; omega
      refine .inr ⟨g, o + 1, cap - 1, cur, rfl, hb, hc, by simp only [List.length_cons] at h1; omega, by omega, by omega, ?_⟩
      have h6 := congrArg (List.drop 1) h4
      rw [List.drop_take, List.drop_drop] at h6
      simpa using h6
theorem infoX : ∃ i, Tryd.prog.info? 3 = some i ∧ i.zero = some (.int .i64 0) ∧ i.size = 1 ∧ i.bytes = 8 := by
  have h := DomA.infoI
  obtain ⟨i, h1, h2⟩ := Option.map_eq_some_iff.mp h
  simp only [Prod.mk.injEq] at h2
  exact ⟨i, h1, h2.1, h2.2.1, h2.2.2⟩
theorem new_R {w : World} {base need cap : Nat} {os : List Int} {pad : Array Value} (hbase : base ≤ w.heap.size) (hn : os.length = need) (h1 : need ≤ cap) (h2 : cap ≤ maxLen) (hp : pad.size = cap - need) :
    R (w.drew.alloc (.cells ((os.map (Value.int .i64)).toArray ++ pad) 3)) base (.slice (some ⟨w.heap.size, 0, none⟩) need cap) os := by
  subst hn
  refine .inr ⟨w.heap.size, 0, cap, _, rfl, hbase, heap_alloc_new w.drew _, h1, h2, ?_, ?_⟩
  · simp only [Array.size_append, List.size_toArray, List.length_map, hp]; omega
  · rw [List.drop_zero, Array.toList_append]
    simp
theorem run_app (base : Nat) (w : World) (v : Value) (xs : List Int) (x : Int) (a : Addr) (c : Nat) (ty : TypeId) (h : R w base v xs) (hx : w.cell? a = some (.int .i64 x)) (hl : xs.length < 17592186044416) (hbase : base ≤ w.heap.size) :
    ∃ v' w', (Builtin.append_ #[26, 26] ty #[v, .slice (some a) 1 c]).run Tryd.prog w = .ok v' w' ∧ R w' base v' (xs ++ [x]) ∧ w.grownBy w' v.ownBlock ∧ (v'.ownBlock = v.ownBlock ∨ v'.ownBlock = some w.heap.size) := by
  obtain ⟨i, hi, hz, hs, hby⟩ := infoX
  have hu := Tryd.underlying26
  have hnews : ∀ j u, [Value.int .i64 x][j]? = some u → w.cell? (a.add j) = some u := by
    intro j u hj
    cases j with
    | zero => simp at hj; subst hj; exact hx
    | succ j => simp at hj
  have hzs : ∀ n, (Builtin.zeroCells (Value.int .i64 0).cells n).size = n := by intro n; rw [size_zeroCells]; simp [Value.cells]
  rcases h with ⟨rfl, rfl⟩ | ⟨g, o, cap, cur, rfl, hb, hc, h1, h2, h3, h4⟩
  · have hr := run_append_nil (P := Tryd.prog) w 26 ty 3 i _ hu hi hz a 1 c [.int .i64 x] (by rw [hs]; rfl) hnews (by omega) (by omega) (by rw [hby]; omega)
    refine ⟨_, _, hr, ?_, ⟨rfl, rfl, rfl, by simp, fun k hk _ => heap_alloc_old w.drew _ (show k < w.drew.heap.size from hk)⟩, .inr rfl⟩
    exact new_R (os := [x]) hbase rfl (grownCap_ge w 1 0 3) (grownCap_le_maxLen w 1 0 3 (by unfold maxLen; omega)) (hzs _)
  · have hone : ∀ u ∈ [Value.int .i64 x], u.oneCell' = true := by intro u hu; simp at hu; subst hu; rfl
    by_cases hroom : xs.length + 1 ≤ cap
    · have hf := run_firstCells_some (P := Tryd.prog) w i.size 1 a 1 c [.int .i64 x] (by rw [hs]; rfl) hnews
      have hst := run_storeCells_at Tryd.prog g (o + xs.length * i.size) 3 [.int .i64 x] 0 cur w hc (by rw [hs]; simp; omega) hone
      simp only [Nat.add_zero] at hst
      have hr : (Builtin.append_ #[26, 26] ty #[.slice (some ⟨g, o, none⟩) xs.length cap, .slice (some a) 1 c]).run Tryd.prog w = .ok (.slice (some ⟨g, o, none⟩) (xs.length + 1) cap) (w.setRow g (cur.toList.take (o + xs.length * i.size) ++ [Value.int .i64 x] ++ cur.toList.drop (o + xs.length * i.size + [Value.int .i64 x].length)).toArray) := by
        simp [Builtin.append_, run_underlying hu, sizeOf, typeInfo, hi, Builtin.lenOf, hroom, hf, Addr.add_lit, hst]
      rw [hs, Nat.mul_one] at hr
      refine ⟨_, _, hr, .inr ⟨g, o, cap, _, by rw [List.length_append]; rfl, hb, setRow_heap w g cur _ _ _ hc, by rw [List.length_append]; exact hroom, h2, ?_, ?_⟩, ⟨rfl, rfl, rfl, by simp, fun k _ hk => setRow_other w g k _ (fun e => hk (by simp [Value.ownBlock, e]))⟩, .inl rfl⟩
      · simp only [List.size_toArray, List.length_append, List.length_take, List.length_drop, Array.length_toList, List.length_cons, List.length_nil]
        omega
      · have hlen : (cur.toList.take (o + xs.length)).length = o + xs.length := by rw [List.length_take]; have e := Array.length_toList (xs := cur); omega
        rw [List.append_assoc, List.drop_append_of_le_length (by rw [hlen]; omega), List.take_append, List.length_drop, hlen]
        rw [List.length_append, List.length_singleton, List.map_append]
        have e1 : (cur.toList.take (o + xs.length)).drop o = xs.map (Value.int .i64) := by
          rw [List.drop_take, Nat.add_sub_cancel_left]; exact h4
        rw [e1, List.take_of_length_le (by rw [List.length_map]; omega), show xs.length + 1 - (o + xs.length - o) = 1 by omega]
        rfl
    · have hr := run_append_grow (P := Tryd.prog) w 26 ty 3 i _ hu hi hz ⟨g, o, none⟩ xs.length cap (xs.map (Value.int .i64)) (by rw [hs, List.length_map, Nat.mul_one]) (cells_at hc (by rw [List.length_map]; exact h4)) a 1 c [.int .i64 x] (by rw [hs]; rfl) hnews (by omega) (by omega) (growslice_fits (by omega) (by rw [hby]; omega))
      refine ⟨_, _, hr, ?_, ⟨rfl, rfl, rfl, by simp, fun k hk _ => heap_alloc_old w.drew _ (show k < w.drew.heap.size from hk)⟩, .inr rfl⟩
      have hn := new_R (w := w) (base := base) (need := xs.length + 1) (cap := grownCap w (xs.length + 1) cap 3) (os := xs ++ [x]) (pad := Builtin.zeroCells (Value.int .i64 0).cells (grownCap w (xs.length + 1) cap 3 - (xs.length + 1))) hbase (by simp) (grownCap_ge w _ _ _) (grownCap_le_maxLen w _ _ _ (by unfold maxLen; omega)) (hzs _)
      simpa using hn
section
variable {ops : Array Oper} {rest : List Oper} {o : Oper} {a : Act} {Q : Exit → Act → World → Prop}
/-- append(v, x), behind 'at_builtin'; the goal's world is 'W.alloc' of the variadic's box. -/
theorem R.append {w0 W : World} (base : Nat) (hgd : o.guard = none) (s x : Operand)
    (ho : o.op = .call { callee := .builtin .append, args := #[s, x], argTypes := #[26, 26] })
    (v : Value) (xs : List Int) (p : Int) (hs : a.eval s = v) (hx : a.eval x = .slice (some ⟨W.heap.size, 0, none⟩) 1 1)
    (HO : R W base v xs) (HB : Below base w0 W) (hbase : base ≤ W.heap.size) (hl : xs.length < 17592186044416)
    (h : ∀ v1 w1, R w1 base v1 (xs ++ [p]) → Below base w0 w1 → W.grownBy w1 v.ownBlock → (v1.ownBlock = v.ownBlock ∨ ∃ b, v1.ownBlock = some b ∧ W.heap.size ≤ b) → wpList Tryd.prog ops Q rest (a.put o.dst v1) w1) :
    wpList Tryd.prog ops Q (o :: rest) a (W.alloc (.cells #[.int .i64 p] 3)) := by
  refine wpList_plain hgd fun K hK => ?_
  have ga : W.grownBy (W.alloc (.cells #[.int .i64 p] 3)) v.ownBlock := World.grownBy_alloc W _ _
  have ho2 : R (W.alloc (.cells #[.int .i64 p] 3)) base v xs := HO.kept (World.grownBy_alloc W _ none) (fun k _ e => by cases e)
  obtain ⟨v', w', hr, h2, h3, h4⟩ := run_app base (W.alloc (.cells #[.int .i64 p] 3)) v xs p ⟨W.heap.size, 0, none⟩ 1 o.type ho2 (by exact cell_one_new W (.int .i64 p) 3 0 _ rfl) hl (by simp; omega)
  unfold Oper.wp execOp
  simp only [ho, resolve, invoke, builtin, Sem.run_bind, Sem.run_pure, Result.andThen_ok, List.map_toArray, List.map_cons, List.map_nil, hs, hx, hr]
  have hg := World.grownBy.trans ga h3
  refine hK _ _ (h v' w' h2 (HB.grown hg hbase (fun k e => (HO.typed k e).1)) hg ?_)
  rcases h4 with e | e
  · exact .inl e
  · exact .inr ⟨_, e, by simp⟩
end
end Qu
end Go.Proofs.YtfiffhcpgojkhaaDoor
/- A map of the call's own from ints to rows of ints, told as a function. No condition but that keys and values are of 64 bits. -/
namespace Go.Proofs.YtfiffhcpgojkhaaDoor
open Go.RowKit Go.ChangeMaps Go.ChangeShapes Go.Proofs.YtfiffhcpgojkhaaDoorW.PrintWords
set_option linter.unusedVariables false
set_option linter.unusedSimpArgs false
namespace Gm
def w64 (x : Int) : Prop := (Lit.int .i64 x).wf = true
/-- Block b is a map of at most n entries; at x it has a row that holds f x; no such row is a block of which No holds. -/
def G (w : World) (b n : Nat) (f : Int → List Int) (No : Nat → Prop) : Prop := ∃ D : DataW Unit, w.ownsGroups Tryd.prog 3 (b + 1) 3 .i64 b n D ∧ w.Shuns b No ∧ Maps.IsMap D ∧ ∀ x, w64 x → (D.atKey (.int .i64 x) .nil = .nil ∧ f x = []) ∨ D.atKey (.int .i64 x) .nil = .slice (lits .i64 (f x)) []
variable {w w' : World} {b n : Nat} {f : Int → List Int} {No : Nat → Prop}
theorem G.made (w : World) (No : Nat → Prop) : G (w.alloc (.map #[] 0)) w.heap.size 0 (fun _ => []) No := ⟨_, World.ownsGroups_made w _ _ _ _, World.Shuns_made w No, ⟨[], rfl⟩, fun _ _ => .inl ⟨rfl, rfl⟩⟩
theorem G.lt (h : G w b n f No) : b < w.heap.size := by
  obtain ⟨D, ⟨es, cl, hb, _⟩, _⟩ := h
  exact (Array.getElem?_eq_some_iff.1 hb).1
theorem G.keptR {row : Option Nat} (h : G w b n f No) (hg : w.grownBy w' row) (hb : some b ≠ row) (hr : ∀ es clock, w.heap[b]? = some (.map es clock) → ∀ x ∈ es.toList, x.val.ownBlock = none ∨ x.val.ownBlock ≠ row) : G w' b n f No := by
  have hl := h.lt
  obtain ⟨D, h1, h2, h3, h4⟩ := h
  exact ⟨D, h1.kept hg hb hr, h2.kept hg hl hb, h3, h4⟩
theorem G.keptNo {row : Option Nat} (h : G w b n f No) (hg : w.grownBy w' row) (hb : some b ≠ row) (hr : ∀ j, row = some j → No j) : G w' b n f No := h.keptR hg hb (by obtain ⟨_, _, h2, _⟩ := h; exact h2.rowsOff hr)
theorem G.below (h : G w b n f No) (hb : Below w.heap.size w w') : G w' b n f No := h.keptNo (row := none) (grown_of_below hb none) (by simp) (fun j e => by cases e)
/-- A row of another type turns. -/
theorem G.typed {row : Option Nat} (h : G w b n f No) (hg : w.grownBy w' row) (ht : ∀ j, row = some j → ∃ cs t, w.heap[j]? = some (.cells cs t (0, 0)) ∧ t ≠ 3) : G w' b n f No := by
  refine h.keptR hg (fun e => ?_) ?_
  · obtain ⟨cs, t, hc, _⟩ := ht b e.symm
    obtain ⟨D, ⟨es, cl, hb, _⟩, _⟩ := h
    rw [hc] at hb
    cases hb
  · obtain ⟨D, h1, _⟩ := h
    intro es clock hb x hx
    cases hx' : x.val.ownBlock with
    | none => exact .inl rfl
    | some g =>
      refine .inr fun e => ?_
      obtain ⟨es', clock', hb', F, _⟩ := h1
      obtain ⟨rfl, rfl⟩ : es' = es ∧ clock' = clock := by rw [hb'] at hb; simpa using hb
      obtain ⟨y, hy⟩ := F.reads x hx
      obtain ⟨z, hz, _⟩ := WideElems.rd_val hy
      obtain ⟨zs, hoi, _⟩ := rowElem_inv hz
      obtain ⟨cs, t, hc, hne⟩ := ht g e.symm
      rcases hoi.1.2 with ⟨e0, _⟩ | ⟨g', cap, cur, e0, _, hh, _⟩
      · rw [e0] at hx'; cases hx'
      · rw [e0] at hx'
        simp only [Value.ownBlock, Option.some.injEq] at hx'
        subst hx'
        rw [hc] at hh
        injection hh with hh
        injection hh with _ h2 _
        exact hne h2
theorem G.reno {No' : Nat → Prop} (h : G w b n f No) (hn : ∀ g, No' g → No g ∨ w.heap.size ≤ g) : G w b n f No' := by
  obtain ⟨D, h1, h2, h3, h4⟩ := h
  exact ⟨D, h1, h2.reno h1 hn, h3, h4⟩
theorem keyI {x : Int} (hx : w64 x) : keyOf Tryd.prog 3 (.int .i64 x) = some (.int .i64 x) := Maps.keyOf_int_mk Tryd.underlying3 hx
theorem zeroS (w : World) : (zeroValue 26).run Tryd.prog w = .ok (.slice none 0 0) w := Tryd.zeroValue26 w
theorem KI : Maps.Keyed Tryd.prog 3 := Maps.int_keyed Tryd.underlying3
theorem findNow_some (x : Int) : ∀ (es : List MapEntry) (i : Nat), (∀ e ∈ es, ∃ l, keyOf Tryd.prog 3 e.key = some l) → ∃ r, Instr.findNow (.int .i64) (.int .i64 x) es i = some r
  | [], i, _ => ⟨none, rfl⟩
  | e :: es, i, h => by
    obtain ⟨l, hl⟩ := h e (by simp)
    obtain ⟨r, hr⟩ := findNow_some x es (i + 1) (fun e' he => h e' (by simp [he]))
    obtain ⟨key, val⟩ := e
    have hk : ∃ z, key = .int .i64 z := by
      simp only at hl
      cases key <;> simp [keyOf, mapKey, Tryd.underlying3] at hl
      exact ⟨_, by obtain ⟨⟨rfl, _⟩, _⟩ := hl; rfl⟩
    obtain ⟨z, rfl⟩ := hk
    unfold Instr.findNow
    simp only [Instr.sameNow, if_true]
    by_cases e : x = z
    · subst e; exact ⟨_, by simp; rfl⟩
    · have : (x == z) = false := by simpa using e
      rw [this]
      exact ⟨r, hr⟩
/-- The look-up, in any world that has the map; what it hands over; the way back. -/
theorem G.look (h : G w b n f No) (hn : n < maxLen) {x : Int} (hx : w64 x) : ∃ v, (∀ w1 : World, w1.heap[b]? = w.heap[b]? → (Instr.lookup 47 (.map (some b)) (.int .i64 x) false).run Tryd.prog w1 = .ok v w1) ∧ w.ownsInts (b + 1) 3 .i64 v (f x) ∧ (f x).length ≤ n ∧ (∀ g, v.ownBlock = some g → ¬ No g) ∧
    ∀ w1 v' zs', w.grownBy w1 v.ownBlock → w1.ownsInts (b + 1) 3 .i64 v' zs' → zs'.length ≤ n + 1 → (v'.ownBlock = v.ownBlock ∨ ∃ g, v'.ownBlock = some g ∧ w.heap.size ≤ g) → (∀ g, v'.ownBlock = some g → ¬ No g) →
      ∃ w2, (Instr.mapUpdate 47 (.map (some b)) (.int .i64 x) v').run Tryd.prog w1 = .ok () w2 ∧ G w2 b (n + 1) (fun y => if y = x then zs' else f y) No ∧ w1.grownBy w2 (some b) := by
  obtain ⟨D, h1, h2, h3, h4⟩ := h
  have hh := h1
  obtain ⟨es, cl, hb, F, hs, hD, hbb, _⟩ := hh
  obtain ⟨r, hr⟩ := findNow_some x es.toList 0 F.keys
  have run_any : ∃ v, ∀ w1 : World, w1.heap[b]? = w.heap[b]? → (Instr.lookup 47 (.map (some b)) (.int .i64 x) false).run Tryd.prog w1 = .ok v w1 := by
    cases r with
    | none => exact ⟨.slice none 0 0, fun w1 hw1 => by
        have hb' : w1.heap[b]? = some (.map es cl) := hw1.trans hb
        simp [Instr.lookup, run_underlying Tryd.underlying47, MapKept.run_getObj_map hb', KI.check w1 _ (keyI hx), Instr.findKey, run_underlying Tryd.underlying3, hr, zeroS]⟩
    | some p => exact ⟨p.2, fun w1 hw1 => by
        have hb' : w1.heap[b]? = some (.map es cl) := hw1.trans hb
        obtain ⟨p1, p2⟩ := p
        simp [Instr.lookup, run_underlying Tryd.underlying47, MapKept.run_getObj_map hb', KI.check w1 _ (keyI hx), Instr.findKey, run_underlying Tryd.underlying3, hr]⟩
  obtain ⟨v, hrun⟩ := run_any
  obtain ⟨zs0, ha0, ho0, hl0, hbk⟩ : ∃ zs, D.atKey (.int .i64 x) .nil = rowDatum .i64 v zs ∧ w.ownsInts (b + 1) 3 .i64 v zs ∧ zs.length ≤ n ∧ w.groupBack Tryd.prog 47 3 (b + 1) 3 .i64 b n D (.int .i64 x) (.int .i64 x) v := by
    obtain ⟨v', zs, hr', ha, ho, hl, hbk⟩ := h1.at KI Tryd.underlying47 (zeroS _) hn (keyI hx)
    rw [hrun w rfl] at hr'
    injection hr' with e _
    subst e
    exact ⟨zs, ha, ho, hl, hbk⟩
  have same : ∀ zs, D.atKey (.int .i64 x) .nil = rowDatum .i64 v zs → w.ownsInts (b + 1) 3 .i64 v zs → zs = f x := by
    intro zs ha ho
    have lits_inj : ∀ a c : List Int, (lits .i64 a : List (DataW Unit)) = lits .i64 c → a = c := by
      intro a c hac
      exact (List.map_inj_right (fun p q hpq => by injection hpq with hpq; injection hpq)).1 hac
    rcases h4 x hx with ⟨e1, e2⟩ | e1
    · rcases ho.datum (H := Unit) with ⟨_, e3⟩ | e3
      · rw [e3, e2]
      · rw [e1, e3] at ha; cases ha
    · rcases ho.datum (H := Unit) with ⟨e3, _⟩ | e3
      · rw [e1, e3] at ha; cases ha
      · rw [e1, e3] at ha
        injection ha with ha
        exact (lits_inj _ _ ha).symm
  have hsh : ∀ g, v.ownBlock = some g → ¬ No g := by
    have hr0 := hrun w rfl
    rcases Maps.fit_look false KI Tryd.underlying47 (zeroS w) hb F (keyI hx) with ⟨hrun', _, _⟩ | ⟨e0, y, hm0, _, hrun', _, _, _⟩
    · rw [hr0] at hrun'
      obtain rfl : v = .slice none 0 0 := by simpa using hrun'
      intro g hg; cases hg
    · rw [hr0] at hrun'
      obtain rfl : v = e0.val := by simpa using hrun'
      exact fun g hg => h2 es cl hb e0 hm0 g hg
  obtain rfl := same zs0 ha0 ho0
  refine ⟨v, hrun, ho0, hl0, hsh, fun w1 v' zs' hg ho' hl' hloc hno => ?_⟩
  obtain ⟨w2, hr2, hG, hg2⟩ := hbk w1 v' zs' hg ho' hl' hloc
  refine ⟨w2, hr2, ⟨_, hG, ?_, Maps.IsMap.put h3 _ _, fun y hy => ?_⟩, hg2⟩
  · have hblt : b < w.heap.size := (Array.getElem?_eq_some_iff.1 hb).1
    have hb1 : w1.heap[b]? = some (.map es cl) := (hg.block b hblt (fun e1 => by have := (ho0.1.lt b e1.symm).1; omega)).trans hb
    obtain ⟨es', clock', hb2, hwho⟩ := stored_who KI Tryd.underlying47 hb1 F (Nat.lt_of_le_of_lt hs hn) (keyI hx) hr2
    intro es2 clock2 hb2' y hy g hyg
    obtain ⟨rfl, rfl⟩ : es' = es2 ∧ clock' = clock2 := by rw [hb2] at hb2'; simpa using hb2'
    rcases hwho y hy with ⟨hy0, _⟩ | ⟨_, hval⟩
    · exact h2 es cl hb y hy0 g hyg
    · exact hno g (hval ▸ hyg)
  · by_cases e : y = x
    · subst e
      simp only [if_true]
      rw [Maps.atKey_put_same h3 (by trivial) _ _]
      rcases ho'.datum (H := Unit) with ⟨e1, e2⟩ | e1
      · exact .inl ⟨e1, e2⟩
      · exact .inr e1
    · simp only [if_neg e]
      rw [Maps.atKey_put_other (fun he => e (by injection he))]
      exact h4 y hy
end Gm
end Go.Proofs.YtfiffhcpgojkhaaDoor
