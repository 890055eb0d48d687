/- slices.SortFunc (with the closure of loop.Backs) and slices.Compact at [][2]int: a row of the call's own that is handed over. No condition but that the row is short. -/
import Derived.Test.YtfiffhcpgojkhaaDoorShelf
import Derived.Test.YtfiffhcpgojkhaaDoorDomE
import Derived.Shelf.SlSortCmp.WholeK
import Derived.Shelf.SlicesG.Cmp
import Derived.Sort.OwnSortedInts
import Derived.Lib.OwnBridge
import Derived.Lib.SlicesCompact
import Derived.Lib.SliceRun
import Derived.Shelf.RegionOpenPlain
import Derived.Deep.Quiet
import Derived.StillTail
import Derived.Test.YtfiffhcpgojkhaaDoorSrtShelf
namespace Go.Proofs.YtfiffhcpgojkhaaDoor
open Go.RowKit Go.Proofs.YtfiffhcpgojkhaaDoorW.PrintWords Go.Proofs.YtfiffhcpgojkhaaDoorW.PrintLast Go.Proofs.YtfiffhcpgojkhaaDoorW.PrintMore
set_option linter.unusedVariables false
set_option linter.unusedSimpArgs false
namespace Srt
/-- A pair's two cells. -/
def enc2 (x : Int × Int) : List Value := [.int .i64 x.1, .int .i64 x.2]
def or2 (a b : Int) : Int := if a = 0 then b else a
def cf2 (x y : Int × Int) : Int := or2 (Lib.compareInt x.1 y.1) (Lib.compareInt x.2 y.2)
def lt2 (x y : Int × Int) : Bool := decide (x.1 < y.1) || (decide (x.1 = y.1) && decide (x.2 < y.2))
theorem ltOf2 : Go.Proofs.ltOf cf2 = lt2 := by
  funext x y
  unfold Go.Proofs.ltOf cf2 or2 Lib.compareInt lt2
  rcases Int.lt_trichotomy x.1 y.1 with h | h | h
  · simp [h]
  · rcases Int.lt_trichotomy x.2 y.2 with g | g | g
    · simp [h, g]
    · simp [h, g]
    · have g1 : ¬ x.2 < y.2 := by omega
      simp [h, g, g1]
  · have h1 : ¬ x.1 < y.1 := by omega
    have h2 : ¬ x.1 = y.1 := by omega
    simp [h, h1, h2]
theorem lt2_iff (x y : Int × Int) : lt2 x y = true ↔ x.1 < y.1 ∨ x.1 = y.1 ∧ x.2 < y.2 := by simp [lt2]
theorem lt2_not (x y : Int × Int) : lt2 x y = false ↔ ¬ (x.1 < y.1 ∨ x.1 = y.1 ∧ x.2 < y.2) := by rw [← lt2_iff]; simp
theorem swo2 : Sort.SWO (Go.Proofs.ltOf cf2) := by
  rw [ltOf2]
  exact ⟨fun x => by rw [lt2_not]; omega, fun x y z h1 h2 => by rw [lt2_iff] at *; omega, fun x y z h1 h2 => by rw [lt2_not] at *; omega⟩
/-! ### Rows of pairs -/
def kp : Kd (Int × Int) := Kd.pair (Kd.int .i64) (Kd.int .i64)
def flat2 (xs : List (Int × Int)) : List Value := xs.flatMap enc2
theorem flat2_len (xs : List (Int × Int)) : (flat2 xs).length = xs.length * 2 := by
  induction xs with
  | nil => rfl
  | cons x xs ih => simp only [flat2, List.flatMap_cons, List.length_append, List.length_cons] at ih ⊢; rw [ih]; simp [enc2]; omega
theorem kpM (w : World) (base : Nat) (ok : Nat → Prop) (x : Int × Int) (cs : List Value) : kp.M w base ok x cs ↔ cs = enc2 x := by
  constructor
  · rintro ⟨_, _, rfl, rfl, rfl⟩; rfl
  · rintro rfl; exact ⟨[.int .i64 x.1], [.int .i64 x.2], rfl, rfl, rfl⟩
theorem reps2 {M : Int × Int → List Value → Prop} (hM : ∀ x cs, M x cs ↔ cs = enc2 x) : ∀ xs : List (Int × Int), Reps M 2 xs (flat2 xs)
  | [] => Reps.none _ _
  | x :: xs => by
    have h1 : Reps M 2 [x] (enc2 x) := ⟨by simp [enc2], fun j p hj => by
      cases j with
      | zero => simp at hj; subst hj; rw [hM]; simp [enc2]
      | succ j => simp at hj⟩
    have := Kd.reps_append h1 (reps2 hM xs)
    simpa [flat2] using this
theorem reps2_inv {M : Int × Int → List Value → Prop} (hM : ∀ x cs, M x cs ↔ cs = enc2 x) : ∀ (xs : List (Int × Int)) (inner : List Value), Reps M 2 xs inner → inner = flat2 xs
  | [], inner, h => by have := h.1; simpa [flat2] using this
  | x :: xs, inner, h => by
    have h0 := h.2 0 x rfl
    rw [hM] at h0
    have h1 := reps2_inv hM xs _ (Kd.reps_drop (m := 1) h)
    rw [← List.take_append_drop 2 inner]
    rw [show inner.take 2 = enc2 x by simpa using h0, show inner.drop 2 = flat2 xs by simpa using h1]
    simp [flat2]
theorem own_of {e : Nat} {w : World} {base : Nat} {ok : Nat → Prop} {v : Value} {xs : List (Int × Int)} (h : kp.R e w base ok v xs) : w.ownsRow base e 2 v xs.length (flat2 xs) := by
  obtain ⟨_, inner, ho, hr⟩ := h
  rw [← reps2_inv (fun x cs => kpM _ _ _ x cs) xs inner hr]
  exact ho
theorem of_own {e : Nat} {w : World} {base : Nat} {ok : Nat → Prop} {v : Value} {xs : List (Int × Int)} (ho : w.ownsRow base e 2 v xs.length (flat2 xs)) (hok : ∀ k, v.ownBlock = some k → ok k) : kp.R e w base ok v xs := ⟨hok, flat2 xs, ho, reps2 (fun x cs => kpM _ _ _ x cs) xs⟩
theorem flat_get (xs : List (Int × Int)) (t : Nat) (h : t < xs.length * 2) : (flat2 xs)[t]? = (enc2 (xs.getD (t / 2) (0, 0)))[t % 2]? := by
  induction xs generalizing t with
  | nil => simp at h
  | cons x xs ih =>
    simp only [flat2, List.flatMap_cons]
    rcases Nat.lt_or_ge t 2 with h2 | h2
    · rw [List.getElem?_append_left (by simpa [enc2] using h2), show t / 2 = 0 by omega, show t % 2 = t by omega]
      rfl
    · rw [List.getElem?_append_right (by simpa [enc2] using h2)]
      have := ih (t - 2) (by simp at h; omega)
      simp only [flat2] at this
      rw [show (enc2 x).length = 2 from rfl, this, show (t - 2) / 2 = t / 2 - 1 by omega, show (t - 2) % 2 = t % 2 by omega]
      obtain ⟨k, hk⟩ : ∃ k, t / 2 = k + 1 := ⟨t / 2 - 1, by omega⟩
      rw [hk]
      rfl
theorem flatK2 (xs : List (Int × Int)) : Sort.flatK enc2 2 xs.toArray = (flat2 xs).toArray := by
  apply Array.ext
  · simp [flat2_len]
  · intro t h1 h2
    have h3 : t < xs.length * 2 := by simpa using h1
    have h4 := flat_get xs t h3
    have h5 : (Sort.flatK enc2 2 xs.toArray)[t]! = (enc2 xs.toArray[t / 2]!)[t % 2]! := Sort.get_flatK enc2 2 _ t (by simpa using h3)
    rw [getElem!_pos _ t h1] at h5
    rw [h5]
    have h6 : t / 2 < xs.length := by omega
    have e1 : xs.toArray[t / 2]! = xs.getD (t / 2) (0, 0) := by simp [h6, List.getD, List.getElem?_eq_getElem h6]
    rw [e1]
    have h7 : t % 2 < (enc2 (xs.getD (t / 2) (0, 0))).length := by simp [enc2]; omega
    rw [List.getElem?_eq_getElem (by rw [flat2_len]; exact h3), List.getElem?_eq_getElem h7] at h4
    rw [getElem!_pos (enc2 (xs.getD (t / 2) (0, 0))) (t % 2) h7]
    simpa using (Option.some.inj h4).symm
open Go.Sort in
theorem holds_of {w : World} {g : Nat} {cur : Array Value} {e : TypeId} {inner : List Value} (hb : w.heap[g]? = some (.cells cur e (0, 0))) (ht : cur.toList.take inner.length = inner) : Holds id w g 0 inner.toArray := by
  intro j hj
  have hj' : j < inner.length := by simpa using hj
  refine ⟨?_, by simp [World.frozen?, hb]⟩
  have h1 : (cur.toList.take inner.length)[j]? = inner[j]? := by rw [ht]
  rw [List.getElem?_take_of_lt hj'] at h1
  simp only [World.cell?, hb, Nat.zero_add]
  simp only [Option.isSome_none, Bool.false_eq_true, if_false]
  rw [← Array.getElem?_toList, h1]
  simp [hj']
open Go.Sort in
theorem heap_put {w : World} {g n : Nat} {os : Array Obj} {cur : Array Value} {e : TypeId} {fr : Nat × Nat} (d : Array Value) (hb : w.heap[g]? = some (.cells cur e fr)) :
    (grow (putRow id (Sort.ahead w n) g 0 d) os).heap[g]? = some (.cells (putCells id 0 d cur) e fr) := by
  have hg : g < w.heap.size := (Array.getElem?_eq_some_iff.1 hb).1
  rw [heap_grow_old _ _ (by simpa using hg)]
  simp [putRow, mapBlock, Sort.ahead, Array.getElem?_modify, hb, onCells]
open Go.Sort in
theorem grownBy_put {w : World} {g n : Nat} {os : Array Obj} (d : Array Value) : w.grownBy (grow (putRow id (Sort.ahead w n) g 0 d) os) (some g) := by
  refine ⟨rfl, rfl, rfl, by simp, fun k hk hne => ?_⟩
  rw [heap_grow_old _ _ (by simpa using hk)]
  have : g ≠ k := fun e => hne (by rw [e])
  simp [putRow, mapBlock, Sort.ahead, Array.getElem?_modify, this]
open Go.Sort in
theorem take_put (cur : Array Value) (ts : List Value) (m : Nat) (h : ts.length ≤ cur.size) (hm : m ≤ ts.length) : (putCells id 0 ts.toArray cur).toList.take m = ts.take m := by
  apply List.ext_getElem?
  intro j
  by_cases hj : j < m
  · rw [List.getElem?_take_of_lt hj, Array.getElem?_toList, List.getElem?_take_of_lt hj]
    have h1 : j < ts.length := by omega
    simp [putCells, h1, show j < cur.size by omega]
  · rw [List.getElem?_take_eq_none (by omega), List.getElem?_eq_none (by simp; omega)]
open Go.Sort in
theorem own_put {w : World} {base g cap n m : Nat} {e : TypeId} {q : Nat} {os : Array Obj} {cur : Array Value} {ts : List Value} (hl : ts.length = n * 2) (hbase : base ≤ g) (hb : w.heap[g]? = some (.cells cur e (0, 0)))
    (h1 : n ≤ cap) (hm : m ≤ n) (h2 : cap ≤ maxLen) (h3 : cur.size = cap * 2) :
    (grow (putRow id (Sort.ahead w q) g 0 ts.toArray) os).ownsRow base e 2 (.slice (some ⟨g, 0, none⟩) m cap) m (ts.take (m * 2)) :=
  ⟨by simp [hl]; omega, .inr ⟨g, cap, _, rfl, hbase, heap_put _ hb, by omega, h2, by simp [putCells, h3], take_put cur ts _ (by omega) (by omega)⟩⟩
end Srt
end Go.Proofs.YtfiffhcpgojkhaaDoor
/- slices.Compact at [][2]int: the library's two loops are walked. -/
namespace Go.Proofs.YtfiffhcpgojkhaaDoor
open Go.RowKit Go.Lib Go.Sort Go.Proofs.YtfiffhcpgojkhaaDoorW.PrintWords Go.Proofs.YtfiffhcpgojkhaaDoorW.PrintLast Go.Proofs.YtfiffhcpgojkhaaDoorW.PrintMore
set_option linter.unusedVariables false
set_option linter.unusedSimpArgs false
namespace Srt
theorem eq_array_list {P : Program} {t e : TypeId} {len d : Nat} {vs us : Array Value} (b : Nat → Bool) (hu : P.underlying t = some (.array len e)) (hs : ∀ W, (sizeOf e).run P W = .ok 1 W)
    (he : ∀ i, i < len → ∃ v u, (∀ W, (part e vs i).run P W = .ok v W) ∧ (∀ W, (part e us i).run P W = .ok u W) ∧ ∀ W, (Op.equalIn d e v u).run P W = .ok (b i) W) (W : World) : (Op.equalIn (d + 1) t (.agg vs) (.agg us)).run P W = .ok ((List.range len).all b) W := by
  rw [Op.equalIn]
  simp only [Sem.run_bind, run_underlying hu, Result.andThen_ok, hs, Std.Legacy.Range.forIn_eq_forIn_range', Std.Legacy.Range.size, Nat.mul_one]
  have hr : List.range' 0 ((len - 0 + 1 - 1) / 1) 1 = List.range len := by rw [List.range_eq_range']; simp
  rw [hr]
  have hl : ∀ i ∈ List.range len, i < len := by intro i hi; simpa using hi
  generalize List.range len = l at hl
  induction l with
  | nil => simp
  | cons i l ih =>
    obtain ⟨v, u, h1, h2, h3⟩ := he i (hl i (by simp))
    simp only [List.forIn_cons, Sem.run_bind, h1, h2, h3, Result.andThen_ok, List.all_cons]
    cases hb : b i
    · simp
    · simp only [Bool.not_true, Bool.false_eq_true, if_false, Sem.run_pure, Bool.true_and]
      exact ih (fun j hj => hl j (by simp [hj]))
set_option maxRecDepth 100000 in
theorem eq2g (x0 x1 y0 y1 : Int) (W : World) : (Op.equalIn 10000 29 (.agg #[.int .i64 x0, .int .i64 x1]) (.agg #[.int .i64 y0, .int .i64 y1])).run Tryd.prog W = .ok (x0 == y0 && x1 == y1) W := by
  have h := eq_array_list (P := Tryd.prog) (t := 29) (d := 9999) (vs := #[.int .i64 x0, .int .i64 x1]) (us := #[.int .i64 y0, .int .i64 y1]) (fun i => [x0, x1].getD i 0 == [y0, y1].getD i 0) Tryd.underlying29 (fun _ => by kernel_rfl) (fun i hi => ?_) W
  · rw [h]
    simp [List.range, List.range.loop]
  · have hq : ∀ (x y : Int) (W : World), (Op.equalIn 9999 3 (.int .i64 x) (.int .i64 y)).run Tryd.prog W = .ok (x == y) W := fun x y W => by
      rw [show (9999 : Nat) = 9998 + 1 from rfl, Op.equalIn]
      simp [run_underlying Tryd.underlying3]
    have : i = 0 ∨ i = 1 := by omega
    rcases this with rfl | rfl <;> exact ⟨_, _, fun W => rfl, fun W => rfl, fun W => hq _ _ W⟩
theorem eq2e (x0 x1 y0 y1 : Int) (W : World) : (Op.equal 29 (.agg #[.int .i64 x0, .int .i64 x1]) (.agg #[.int .i64 y0, .int .i64 y1])).run Tryd.prog W = .ok (x0 == y0 && x1 == y1) W := eq2g x0 x1 y0 y1 W
/-- 'clear(s)', s a slice of n > 0 pairs. -/
theorem run_clear2 (w : World) (ty : TypeId) (b o n c : Nat) (hn : 0 < n)
    (hc : ∀ j, j < n * 2 → (w.cell? ⟨b, o + j, none⟩).isSome = true) (hf : ∀ j, j < n * 2 → w.frozen? ⟨b, o + j, none⟩ = false) :
    (Builtin.clear_ #[25] ty #[.slice (some ⟨b, o, none⟩) n c]).run Tryd.prog w = .ok (.tuple #[]) (w.setCells b o (List.replicate (n * 2) (.int .i64 0))) := by
  have hv : ∀ w, (zeroValue 29).run Tryd.prog w = .ok (.agg #[.int .i64 0, .int .i64 0]) w := fun w => Tryd.zeroValue29 w
  have hzc : (Builtin.zeroCells (Value.agg #[.int .i64 0, .int .i64 0]).cells n).toList = List.replicate (n * 2) (.int .i64 0) := by
    apply List.ext_getElem
    · simp [Builtin.zeroCells, Value.cells]
    · intro i h1 h2
      have : i % 2 = 0 ∨ i % 2 = 1 := by omega
      rcases this with e | e <;> simp [Builtin.zeroCells, Value.cells, e]
  have hst := run_storeCells_cells (P := Tryd.prog) b o (List.replicate (n * 2) (.int .i64 0)) 0 w (by simpa using hc) (by simpa using hf) (by intro v hv'; rw [List.eq_of_mem_replicate hv']; rfl)
  simp only [Nat.add_zero] at hst
  obtain ⟨m, rfl⟩ : ∃ m, n = m + 1 := ⟨n - 1, by omega⟩
  simp only [Builtin.clear_, Sem.run_bind, run_underlying Tryd.underlying25, Result.andThen_ok, hv, hzc, hst, Sem.run_pure]
  simp [run_underlying Tryd.underlying25, hv, hzc, hst]
abbrev zp : Int × Int := (0, 0)
theorem hk2 : ∀ x, (enc2 x).length = 2 := fun _ => rfl
theorem hone2 : ∀ x, ∀ v ∈ enc2 x, v.oneCell' = true := fun x v hv => by simp [enc2] at hv; rcases hv with rfl | rfl <;> rfl
theorem ld2 {W : World} {blk off : Nat} {d : Array (Int × Int)} (h : HoldsK enc2 2 W blk off d) (i : Nat) (hi : i < d.size) : Sem.run Tryd.prog (loadCellsFrom ⟨blk, off + i * 2, none⟩ 0 2 #[]) W = .ok #[.int .i64 d[i]!.1, .int .i64 d[i]!.2] W := run_loadCellsFrom_list Tryd.prog _ _ _ 2 (hk2 _) (HoldsK.cells h hk2 hi)
theorem cl2 {W : World} {blk off : Nat} {d : Array (Int × Int)} (h : HoldsK enc2 2 W blk off d) (i : Nat) (hi : i < d.size) {x y : Int} (e : d[i]! = (x, y)) : W.cell? ⟨blk, off + i * 2, none⟩ = some (.int .i64 x) ∧ W.cell? ⟨blk, off + i * 2 + 1, none⟩ = some (.int .i64 y) ∧ W.frozen? ⟨blk, off + i * 2, none⟩ = false ∧ W.frozen? ⟨blk, off + i * 2 + 1, none⟩ = false := by
  have h0 := HoldsK.cell h hi (show 0 < 2 by omega)
  have h1 := HoldsK.cell h hi (show 1 < 2 by omega)
  rw [e] at h0 h1
  exact ⟨h0.1, h1.1, h0.2, h1.2⟩
theorem st2 {W : World} {blk off : Nat} {d : Array (Int × Int)} (h : HoldsK enc2 2 W blk off d) (i : Nat) (hi : i < d.size) (x y : Int) : Sem.run Tryd.prog (storeCells ⟨blk, off + i * 2, none⟩ [.int .i64 x, .int .i64 y] 0) W = .ok () (W.setCells blk (off + i * 2) [.int .i64 x, .int .i64 y]) :=
  stores_of_holds Tryd.prog h (i * 2) _ (by rw [size_flatK]; simp only [List.length_cons, List.length_nil]; omega) (fun v hv => hone2 (x, y) v hv)
theorem setK {dk : Array (Int × Int)} {i : Nat} (hi : i < dk.size) (x : Int × Int) : setMany (flatK enc2 2 dk) (i * 2) (enc2 x) = flatK enc2 2 (dk.setIfInBounds i x) := by
  refine ext_get! (by simp) fun t ht => ?_
  have ht' : t < dk.size * 2 := by simpa using ht
  rw [get_setMany _ _ _ t (by simpa using ht'), get_flatK _ _ _ t ht', get_flatK _ _ _ t (by simpa using ht'), hk2]
  by_cases a : t / 2 = i
  · rw [if_pos (by omega)]
    subst a
    rw [getElem!_set_same _ _ _ hi, show t - t / 2 * 2 = t % 2 by omega]
  · rw [if_neg (by omega), getElem!_set_other _ _ _ _ (by omega)]
theorem lay2 : ∀ (n : Nat) (dk : Array (Int × Int)) (k : Nat), k + n ≤ dk.size → setMany (flatK enc2 2 dk) (k * 2) (List.replicate (n * 2) (.int .i64 0)) = flatK enc2 2 (lay dk k (List.replicate n zp))
  | 0, _, _, _ => rfl
  | n + 1, dk, k, h => by
    rw [show (n + 1) * 2 = n * 2 + 1 + 1 by omega, List.replicate_succ, List.replicate_succ, List.replicate_succ]
    have e1 := setK (dk := dk) (i := k) (by omega) zp
    have e2 := lay2 n (dk.setIfInBounds k zp) (k + 1) (by rw [Array.size_setIfInBounds]; omega)
    rw [lay, ← e2, ← e1, show (k + 1) * 2 = k * 2 + 1 + 1 by omega]
    rfl
theorem clear_world {w wr : World} {q blk off : Nat} {dk : Array (Int × Int)} {k n : Nat} (h : k + n ≤ dk.size) (hwr : wr = putRowK enc2 2 (Sort.ahead w q) blk off dk) :
    wr.setCells blk (off + k * 2) (List.replicate (n * 2) (.int .i64 0)) = putRowK enc2 2 (Sort.ahead w q) blk off (lay dk k (List.replicate n zp)) := by
  subst hwr
  unfold putRowK
  rw [setCells_putRow _ _ _ _ _ _ (by rw [size_flatK, List.length_replicate]; omega), lay2 n dk k h]
theorem store_world {w wr : World} {n blk off : Nat} {dk : Array (Int × Int)} {i : Nat} (hi : i < dk.size) (hwr : wr = putRowK enc2 2 (Sort.ahead w n) blk off dk) (x : Int × Int) :
    wr.setCells blk (off + i * 2) (enc2 x) = putRowK enc2 2 (Sort.ahead w n) blk off (dk.setIfInBounds i x) := by
  subst hwr
  unfold putRowK
  rw [setCells_putRow _ _ _ _ _ _ (by rw [size_flatK, hk2]; omega), setK hi]
end Srt
end Go.Proofs.YtfiffhcpgojkhaaDoor
/- slices.Compact at [][2]int: walk. -/
namespace Go.Proofs.YtfiffhcpgojkhaaDoor
open Go.RowKit Go.Lib Go.Sort Go.Proofs.YtfiffhcpgojkhaaDoorW.PrintWords Go.Proofs.YtfiffhcpgojkhaaDoorW.PrintLast Go.Proofs.YtfiffhcpgojkhaaDoorW.PrintMore
set_option linter.unusedVariables false
set_option linter.unusedSimpArgs false
namespace Srt
attribute [local go_sem] eq2g eq2e
set_option maxHeartbeats 4000000 in
set_option maxRecDepth 1000000 in
theorem compact_arr (blk off cap : Nat) (d : Array (Int × Int)) (w : World) (hH : HoldsK enc2 2 w blk off d) (hsz : d.size ≤ 4611686018427387903) (hcap : d.size ≤ cap) :
    Calls Tryd.prog 22 #[.slice (some ⟨blk, off, none⟩) d.size cap] w fun e w' => e = .returned (.slice (some ⟨blk, off, none⟩) (compactUpTo d d.size).length cap) ∧ ∃ q, w' = putRowK enc2 2 (Sort.ahead w q) blk off (compactUpTo d d.size ++ List.replicate (d.size - (compactUpTo d d.size).length) zp).toArray := by
  have same : ∀ q, (∀ j, j < d.size → keeps d j = true) → (compactUpTo d d.size).length = d.size ∧ w.drewN q = putRowK enc2 2 (Sort.ahead w q) blk off (compactUpTo d d.size ++ List.replicate (d.size - (compactUpTo d d.size).length) zp).toArray := by
    intro q hall
    have e : compactUpTo d d.size = d.toList := by rw [compactUpTo_all d _ hall, range_map_get]
    rw [e]
    refine ⟨by simp, ?_⟩
    simp only [Array.length_toList, Nat.sub_self, List.replicate_zero, List.append_nil, Array.toArray_toList]
    exact (putRowK_self enc2 2 (Sort.ahead w q) blk off d (holdsK_ahead enc2 2 w q blk off d hH)).symm
  have HS : Aside (∀ q, (∀ j, j < d.size → keeps d j = true) → (compactUpTo d d.size).length = d.size ∧ w.drewN q = putRowK enc2 2 (Sort.ahead w q) blk off (compactUpTo d d.size ++ List.replicate (d.size - (compactUpTo d d.size).length) zp).toArray) := same
  clear same
  have hu29 := Tryd.underlying29
  by_cases h2 : d.size < 2
  · have HH : Aside (HoldsK enc2 2 w blk off d) := hH
    clear hH
    go_enter Tryd.func22, Tryd.ntmps22
    go_wp2
    go_ret
    obtain ⟨e1, e2⟩ := HS.out 0 (fun j hj => keeps_lt_one d j (by omega))
    exact ⟨by rw [e1]; rfl, 0, e2⟩
  · go_enter Tryd.func22, Tryd.ntmps22
    go_wp2
    go_loopg [3] d.size (fun g s3 wr => ∃ k q : Nat, 1 ≤ k ∧ k ≤ d.size ∧ d.size - k ≤ g ∧ s3 = .int .i64 k ∧ wr = w.drewN q ∧ ∀ j, j < k → keeps d j = true)
    case atStart => exact ⟨1, 0, Nat.le_refl _, by omega, by omega, rfl, rfl, keeps_lt_one d⟩
    case round =>
      obtain ⟨k, q, hk1, hk, hg, rfl, hwr, hall⟩ := hrel
      by_cases hlt : k < d.size
      · have HW : Aside (wr = w.drewN q) := hwr
        obtain ⟨x0, x1, hx⟩ : ∃ x0 x1, d[k]! = (x0, x1) := ⟨_, _, rfl⟩
        obtain ⟨j, hj⟩ : ∃ j, j + 1 = k := ⟨k - 1, by omega⟩
        have jlt : j < d.size := by omega
        obtain ⟨y0, y1, hy⟩ : ∃ y0 y1, d[j]! = (y0, y1) := ⟨_, _, rfl⟩
        have hHd : HoldsK enc2 2 wr blk off d := by rw [hwr]; exact holdsK_ahead enc2 2 w q blk off d hH
        obtain ⟨c1, c2, -, -⟩ := cl2 hHd k hlt hx
        obtain ⟨c3, c4, -, -⟩ := cl2 hHd j jlt hy
        have A : Aside (∀ j, j < k → keeps d j = true) := hall
        have HH : Aside (HoldsK enc2 2 w blk off d) := hH
        clear hall hH hHd hwr
        have B : Aside (d[k]! = (x0, x1) ∧ d[j]! = (y0, y1)) := ⟨hx, hy⟩
        clear hx hy
        have wk : IntKind.i64.wrap ((k : Int) - 1) = (j : Int) := by rw [IntKind.wrap_i64]; omega
        by_cases hdup : x0 = y0 ∧ x1 = y1
        · obtain ⟨rfl, rfl⟩ := hdup
          go_wp2
          go_quiet (fail)
          go_wp2
          clear c1 c2 c3 c4 wk
          go_loopg [3, 5] d.size (fun g s3 s5 wr => ∃ (kk k2 q2 : Nat) (dk : Array (Int × Int)), s3 = .int .i64 kk ∧ s5 = .int .i64 k2 ∧ 1 ≤ k2 ∧ k + k2 ≤ d.size ∧ d.size - (k + k2) ≤ g ∧ wr = putRowK enc2 2 (Sort.ahead w q2) blk off dk ∧ CompInv d (k + k2) kk dk)
          case atStart => exact ⟨k, 1, q + nq, d, rfl, rfl, Nat.le_refl _, by omega, by omega, by rw [HW.out]; exact (World.drewN_drewN _ _ _).trans (putRowK_self enc2 2 (Sort.ahead w (q + nq)) blk off d (holdsK_ahead enc2 2 w (q + nq) blk off d HH.out)).symm, CompInv.start A.out (keeps_neg (by omega) (by rw [← hj]; simp only [Nat.add_sub_cancel]; rw [hj, B.out.1, B.out.2]))⟩
          case round =>
            obtain ⟨kk, k2, q2, dk, rfl, rfl, h1, hle, hg2, hwr, hI⟩ := hrel
            have hkk := hI.lt
            have hds := hI.size
            have hHk : HoldsK enc2 2 wr blk off dk := by rw [hwr]; exact holdsK_putRowK enc2 2 _ blk off d dk (holdsK_ahead enc2 2 w q2 blk off d HH.out) hds
            have W2 : Aside (wr = putRowK enc2 2 (Sort.ahead w q2) blk off dk) := hwr
            have I2 : Aside (CompInv d (k + k2) kk dk) := hI
            clear hwr
            by_cases hlt2 : k + k2 < d.size
            · obtain ⟨u0, u1, hu⟩ : ∃ u0 u1, d[k + k2]! = (u0, u1) := ⟨_, _, rfl⟩
              obtain ⟨j2, hj2⟩ : ∃ j2, j2 + 1 = k2 := ⟨k2 - 1, by omega⟩
              obtain ⟨v0, v1, hv⟩ : ∃ v0 v1, d[k + j2]! = (v0, v1) := ⟨_, _, rfl⟩
              obtain ⟨a1, a2, -, -⟩ := cl2 hHk (k + k2) (by omega) ((hI.high (k + k2) (by omega)).trans hu)
              obtain ⟨a3, a4, -, -⟩ := cl2 hHk (k + j2) (by omega) ((hI.high (k + j2) (by omega)).trans hv)
              rw [show off + (k + k2) * 2 = off + k * 2 + k2 * 2 by omega] at a1 a2
              rw [show off + (k + j2) * 2 = off + k * 2 + j2 * 2 by omega] at a3 a4
              have wk : IntKind.i64.wrap ((k2 : Int) - 1) = (j2 : Int) := by rw [IntKind.wrap_i64]; omega
              have j2lt : j2 < d.size - k := by omega
              have k2lt : k2 < d.size - k := by omega
              obtain ⟨o0, o1, ho⟩ : ∃ o0 o1, dk[kk]! = (o0, o1) := ⟨_, _, rfl⟩
              obtain ⟨b1, b2, b3, b4⟩ := cl2 hHk kk (by omega) ho
              have kklt : kk < d.size := by omega
              have C : Aside (d[k + k2]! = (u0, u1) ∧ d[k + j2]! = (v0, v1)) := ⟨hu, hv⟩
              have HK : Aside (HoldsK enc2 2 wr blk off dk) := hHk
              clear hHk hI hu hv ho
              by_cases huv : u0 = v0 ∧ u1 = v1
              · obtain ⟨rfl, rfl⟩ := huv
                go_wp2
                go_quiet (fail)
                go_wp2
                go_roundg (d.size - (k + (k2 + 1)))
                case measure => omega
                case rel => exact ⟨kk, k2 + 1, q2 + nq, dk, rfl, by go_num, by omega, by omega, Nat.le_refl _, by rw [W2.out]; exact putRowK_drewN enc2 2 w q2 _ blk off dk, I2.out.skip (keeps_neg (by omega) (by rw [show k + k2 - 1 = k + j2 by omega, C.out.1, C.out.2]))⟩
              · have hb : (u0 == v0 && u1 == v1) = false := by
                  rw [Bool.eq_false_iff]; intro h; rw [Bool.and_eq_true] at h; simp only [beq_iff_eq] at h; exact huv h
                go_wp2
                go_quiet (fail)
                go_wp2
                go_roundg (d.size - (k + (k2 + 1)))
                case measure => omega
                case rel =>
                  have e1 := store_world (i := kk) (by omega) ((by rw [W2.out]; exact putRowK_drewN enc2 2 w q2 _ blk off dk) : wr.drewN nq = putRowK enc2 2 (Sort.ahead w (q2 + nq)) blk off dk) (u0, u1)
                  have e2 := I2.out.keep hlt2 (keeps_pos (by rw [show k + k2 - 1 = k + j2 by omega, C.out.1, C.out.2]; intro h; injection h with h1 h2; exact huv ⟨h1, h2⟩))
                  rw [C.out.1] at e2
                  exact ⟨kk + 1, k2 + 1, q2 + nq, dk.setIfInBounds kk (u0, u1), by go_num, by go_num, by omega, by omega, Nat.le_refl _, e1, e2⟩
            · have hend : k + k2 = d.size := by omega
              have hcl : ∀ ty, (Builtin.clear_ #[25] ty #[.slice (some ⟨blk, off + kk * 2, none⟩) (d.size - kk) (cap - kk)]).run Tryd.prog wr = .ok (.tuple #[]) (wr.setCells blk (off + kk * 2) (List.replicate ((d.size - kk) * 2) (.int .i64 0))) :=
                fun ty => run_clear2 wr ty blk (off + kk * 2) _ _ (by omega) (fun j hj => by rw [show off + kk * 2 + j = off + (kk * 2 + j) by omega, (hHk (kk * 2 + j) (by rw [size_flatK]; omega)).1]; rfl) (fun j hj => by rw [show off + kk * 2 + j = off + (kk * 2 + j) by omega]; exact (hHk (kk * 2 + j) (by rw [size_flatK]; omega)).2)
              clear hHk hI
              go_wp2
              go_ret
              have hI := I2.out
              rw [hend] at hI
              refine ⟨by rw [hI.len]; rfl, q2, ?_⟩
              rw [hI.len, ← hI.done zp]
              exact clear_world (by omega) W2.out
        · have hb : (x0 == y0 && x1 == y1) = false := by
            rw [Bool.eq_false_iff]; intro h; rw [Bool.and_eq_true] at h; simp only [beq_iff_eq] at h; exact hdup h
          go_wp2
          go_quiet (fail)
          go_wp2
          go_roundg (d.size - (k + 1))
          case measure => omega
          case rel =>
            refine ⟨k + 1, q + nq, by omega, by omega, Nat.le_refl _, by go_num, by rw [HW.out]; exact World.drewN_drewN _ _ _, fun j' hj' => ?_⟩
            by_cases e : j' = k
            · subst e
              exact keeps_pos (by rw [← hj]; simp only [Nat.add_sub_cancel]; rw [hj, B.out.1, B.out.2]; intro h; injection h with h1 h2; exact hdup ⟨h1, h2⟩)
            · exact A.out j' (by omega)
      · have : k = d.size := by omega
        subst this
        have HH : Aside (HoldsK enc2 2 w blk off d) := hH
        have HW : Aside (wr = w.drewN q) := hwr
        clear hH hwr
        go_wp2
        go_ret
        obtain ⟨e1, e2⟩ := HS.out q hall
        exact ⟨by rw [e1]; rfl, q, HW.out.trans e2⟩
end Srt
end Go.Proofs.YtfiffhcpgojkhaaDoor
/- A region that draws its order, whose first operations are quiet in a class of worlds and whose last ones come in one order alone: one walk in the order of the text serves every order. No condition. -/
namespace Go.Proofs.YtfiffhcpgojkhaaDoor
open Go
section
variable {P : Program} {ops : Array Oper} {md : Region.Mode} {C : World → Prop}
/-- Whatever head operation is picked, f times; then L. -/
def wpHeadQ (P : Program) (md : Region.Mode) (ops : Array Oper) (C : World → Prop) (n : Nat) (L : Array Bool → Act → Prop) : Nat → Array Bool → Act → Prop
  | 0, listed, a => L listed a
  | f + 1, listed, a =>
    Region.ready md ops listed ≠ [] ∧ ∀ i ∈ Region.ready md ops listed, i < n ∧ qOp P ops C i (wpHeadQ P md ops C n L f (listed.setIfInBounds i true)) a
theorem wpAny_of_headQ {n g : Nat} {L : Array Bool → Act → Prop} {Q' : Exit → Act → World → Prop} (hL : ∀ listed a w, C w → L listed a → wpAny P md ops Q' g listed a w) :
    ∀ (f : Nat) (listed : Array Bool) (a : Act) (w : World), C w → wpHeadQ P md ops C n L f listed a → wpAny P md ops Q' (f + g) listed a w
  | 0, listed, a, w, hw, h => by rw [Nat.zero_add]; exact hL _ _ _ hw h
  | f + 1, listed, a, w, hw, h => by
    rw [show f + 1 + g = (f + g) + 1 by omega]
    exact ⟨fun h0 => absurd h0 h.1, fun i hi => wpOp_of_qOp hw (fun a' w' hw' h' => wpAny_of_headQ hL f _ a' w' hw' h') (h.2 i hi).2⟩
theorem wpHeadQ_first {n i : Nat} {oi : Oper} {v : Value} {L : Array Bool → Act → Prop} (hi : ops[i]? = some oi) (hsel : ∀ (j : Nat) (o : Oper) cs b, ops[j]? = some o → o.op ≠ .select cs b)
    (hs : Region.sinkB md ops n = true) (hc : Region.chainB md ops n = true) (hn : n < ops.size) (hin : i < n)
    (hdone : ∀ listed a, L listed a → ∀ j ∈ Region.ready md ops listed, n ≤ j) :
    ∀ (f : Nat) (listed : Array Bool) (a : Act), HeadInv md ops n listed →
      (∀ j oj, ops[j]? = some oj → j ≠ i → listed.getD j true = false → (∀ e ∈ oj.after, Region.binds md e = true → e.on ≠ i) → oi.apart ops oj = true) →
      i ∈ Region.ready md ops listed → YieldsIn P ops C oi v a →
      wpHeadQ P md ops C n L f (listed.setIfInBounds i true) (a.put oi.dst v) → wpHeadQ P md ops C n L (f + 1) listed a := by
  intro f
  induction f with
  | zero =>
    intro listed a inv _ hr hy H
    have hun := (mem_ready.1 hr).1
    refine ⟨fun h => (by rw [h] at hr; cases hr), fun j hj => ?_⟩
    have hjn : j < n := Nat.lt_of_not_le fun h => tail_waits hs hc hn inv _ i rfl hin hun j h hj
    refine ⟨hjn, ?_⟩
    by_cases hji : j = i
    · subst hji; exact hy.qOp hi H
    · have := hdone _ _ H j (ready_mono hj hji)
      omega
  | succ f ih =>
    intro listed a inv hfree hr hy H
    have hun := (mem_ready.1 hr).1
    refine ⟨fun h => (by rw [h] at hr; cases hr), fun j hj => ?_⟩
    have hjn : j < n := Nat.lt_of_not_le fun h => tail_waits hs hc hn inv _ i rfl hin hun j h hj
    refine ⟨hjn, ?_⟩
    by_cases hji : j = i
    · subst hji; exact hy.qOp hi H
    · have h1 := (H.2 j (ready_mono hj hji)).2
      obtain ⟨hjun, oj, hoj, hall⟩ := mem_ready.1 hj
      have hnot : ∀ e ∈ oj.after, Region.binds md e = true → e.on ≠ i := fun e he hb heq => by
        have h1 := hall e he hb
        rw [heq, getD_both hun] at h1
        cases h1
      have h2 := qOp_put hoj (hfree j oj hoj hji hjun hnot) (fun cs b => hsel i oi cs b hi) (fun cs b => hsel j oj cs b hoj) hy h1
      have hfree' : ∀ k ok, ops[k]? = some ok → k ≠ i → (listed.setIfInBounds j true).getD k true = false →
          (∀ e ∈ ok.after, Region.binds md e = true → e.on ≠ i) → oi.apart ops ok = true := fun k ok hk hki hun hno => by
        refine hfree k ok hk hki ?_ hno
        by_cases hjk : j = k
        · subst hjk; exact hjun
        · rw [getD_set_ne true hjk] at hun; exact hun
      refine qOp_mono (fun a' h3 => ih (listed.setIfInBounds j true) a' (inv.set hj hjn) hfree' (ready_mono hr (Ne.symm hji)) h3.1 ?_) h2
      rw [Array.setIfInBounds_comm _ _ hji]
      exact h3.2
theorem wpHeadQ_lex {n g : Nat} {Lq : Act → Prop} (hsel : Region.noSelect ops = true) (hs : Region.sinkB md ops n = true) (hc : Region.chainB md ops n = true) (hn : n < ops.size) :
    ∀ (l : List Oper) (k : Nat) (listed : Array Bool) (a : Act), (∀ j, j < l.length → l[j]? = ops[k + j]?) → k + l.length = n → HeadInv md ops n listed →
    Region.lexHead md ops g l.length k listed = true → wpQuiet P ops C Lq l a →
    wpHeadQ P md ops C n (fun listed' a' => Region.seqB md ops g n listed' = true ∧ Lq a') l.length listed a
  | [], k, listed, a, _, hk, _, hB, h => by
    have : k = n := by simpa using hk
    subst this
    exact ⟨by simpa [Region.lexHead] using hB, h⟩
  | o :: l, k, listed, a, hl, hk, inv, hB, h => by
    have h0 : ops[k]? = some o := by simpa using (hl 0 (by simp)).symm
    simp only [List.length_cons, Region.lexHead, Bool.and_eq_true] at hB
    obtain ⟨⟨hr, hf⟩, hB'⟩ := hB
    have hkn : k < n := by simp only [List.length_cons] at hk; omega
    have hr' : k ∈ Region.ready md ops listed := by simpa using hr
    have hst : qOp P ops C k (wpQuiet P ops C Lq l) a := by unfold qOp; simp only [h0]; exact h
    obtain ⟨v, hy, hK⟩ := yieldsIn_of_qOp h0 hst
    exact wpHeadQ_first h0 (Region.noSelect_spec hsel) hs hc hn hkn (fun listed' a' hL => seqB_ready hL.1) l.length listed a inv (Region.free_spec h0 hf) hr' hy
      (wpHeadQ_lex hsel hs hc hn l (k + 1) _ _ (fun j hj => by have := hl (j + 1) (by simp; omega); simpa [Nat.add_assoc, Nat.add_comm 1 j] using this) (by simp only [List.length_cons] at hk; omega) (inv.set hr' hkn) hB' hK)
/-- The first n operations are quiet in C; the rest comes in its own order. -/
theorem wp_region_quiet_tail {id : Nat} {Q : Exit → Act → World → Prop} {a : Act} {w : World} {l : List Oper} (n : Nat) (hm : P.follows .mixedOrders = true) (hB : Region.lexTailB .any l.toArray n = true) (hC : C { w with drawn := w.drawn + 1 })
    (h : wpQuiet P l.toArray C (fun a' => ∀ w', C w' → wpList P l.toArray Q (l.drop n) a' w') (l.take n) a) : (Code.region id l.toArray true).wp P Q a w := by
  simp only [Region.lexTailB, Bool.and_eq_true, decide_eq_true_eq] at hB
  obtain ⟨⟨⟨⟨hsel, hn⟩, hs⟩, hc⟩, hlex⟩ := hB
  have hn' : n < l.length := by simpa using hn
  have htl : (l.take n).length = n := by simp; omega
  have hdl : (l.drop n).length = l.toArray.size - n := by simp
  have inv0 : HeadInv .any l.toArray n (Array.replicate l.toArray.size false) :=
    ⟨by simp, fun j oj _ hl => (by rw [getD_replicate_false] at hl; cases hl), fun t _ ht => getD_in (by simpa using ht) (getD_replicate_false _ _)⟩
  have H := wpHeadQ_lex (md := .any) (g := l.toArray.size - n) hsel hs hc hn (l.take n) 0 _ a (fun j hj => by
    have hj' : j < n := by rw [htl] at hj; exact hj
    simp [hj']) (by simpa using htl) inv0 (by rw [htl]; exact hlex) h
  refine wp_region_any hm ?_
  have := wpAny_of_headQ (Q' := Q) (g := l.toArray.size - n) (fun listed a' w' hw' hL => by
    have := wpAny_of_seq (md := .any) (Q' := Q) (l.drop n) n listed a' w' (fun j => by simp [List.getElem?_drop]) (by rw [hdl]; exact hL.1) (hL.2 w' hw')
    rwa [hdl] at this) _ _ _ _ hC H
  rw [htl, show n + (l.toArray.size - n) = l.toArray.size by omega] at this
  exact this
end
end Go.Proofs.YtfiffhcpgojkhaaDoor
namespace Go.Proofs.YtfiffhcpgojkhaaDoor
open Go.RowKit Go.Lib Go.Sort Go.Proofs.YtfiffhcpgojkhaaDoorW.PrintWords Go.Proofs.YtfiffhcpgojkhaaDoorW.PrintLast Go.Proofs.YtfiffhcpgojkhaaDoorW.PrintMore
set_option linter.unusedVariables false
set_option linter.unusedSimpArgs false
namespace Srt
theorem orI (g cap : Nat) (a b : Int) (W : World) (h0 : W.cell? ⟨g, 0, none⟩ = some (.int .i64 a)) (h1 : W.cell? ⟨g, 1, none⟩ = some (.int .i64 b)) :
    Calls Tryd.prog 20 #[.slice (some ⟨g, 0, none⟩) 2 cap] W fun e w' => e = .returned (.int .i64 (or2 a b)) ∧ w' = W := by
  by_cases ha : a = 0
  · subst ha
    by_cases hb : b = 0
    · subst hb
      have er : or2 0 0 = 0 := rfl
      rw [er]
      go_enter Tryd.func20, Tryd.ntmps20
      go_wp2
      refine wp_loop_rounds 3 ?_
      rw [rounds_succ]
      go_wp2
      rw [rounds_succ]
      go_wp2
      rw [rounds_succ]
      go_wp2
      go_ret
      exact ⟨rfl, rfl⟩
    · have er : or2 0 b = b := rfl
      rw [er]
      have hb1 : (b == 0) = false := by simpa using hb
      go_enter Tryd.func20, Tryd.ntmps20
      go_wp2
      refine wp_loop_rounds 2 ?_
      rw [rounds_succ]
      go_wp2
      rw [rounds_succ]
      go_wp2
      go_ret
      exact ⟨rfl, rfl⟩
  · have er : or2 a b = a := if_neg ha
    rw [er]
    have hb1 : (a == 0) = false := by simpa using ha
    go_enter Tryd.func20, Tryd.ntmps20
    go_wp2
    refine wp_loop_rounds 1 ?_
    rw [rounds_succ]
    go_wp2
    go_ret
    exact ⟨rfl, rfl⟩
theorem quiet_tail_drew {P : Program} {id : Nat} {Q : Exit → Act → World → Prop} {a : Act} {w : World} {l : List Oper} (n : Nat) (hm : P.follows .mixedOrders = true) (hB : Region.lexTailB .any l.toArray n = true)
    (h : wpQuiet P l.toArray (fun w' => ∃ n, w' = w.drewN n) (fun a' => ∀ w', (∃ n, w' = w.drewN n) → wpList P l.toArray Q (l.drop n) a' w') (l.take n) a) : (Code.region id l.toArray true).wp P Q a w :=
  wp_region_quiet_tail (C := fun w' => ∃ n, w' = w.drewN n) n hm hB ⟨1, rfl⟩ h
set_option maxHeartbeats 400000 in
theorem closure (x y : Int × Int) (W : World) : Calls Tryd.prog 19 #[.agg #[.int .i64 x.1, .int .i64 x.2], .agg #[.int .i64 y.1, .int .i64 y.2]] W fun e w' => e = .returned (.int .i64 (cf2 x y)) ∧ ∃ q os', w' = grow (W.drewN q) os' := by
  have hcon := fun (a b : Int) W' => Tryd.cmp_Compare_int a b W'
  unfold cf2
  generalize hr1 : Lib.compareInt x.1 y.1 = r1
  generalize hr2 : Lib.compareInt x.2 y.2 = r2
  have hc1 := hcon x.1 y.1
  have hc2 := hcon x.2 y.2
  rw [hr1] at hc1
  rw [hr2] at hc2
  clear hcon hr1 hr2
  go_enter Tryd.func19, Tryd.ntmps19
  go_wp2
  refine quiet_tail_drew 10 (by kernel_rfl) (by kernel_rfl) ?_
  simp only [List.take_succ_cons, List.take_zero, List.drop_succ_cons, List.drop_zero]
  iterate 5 (quiet_step (exact Calls.quiet_of_same (hc1 _)))
  iterate 5 (quiet_step (exact Calls.quiet_of_same (hc2 _)))
  refine wpQuiet_nil ?_
  intro _ hw'
  obtain ⟨nq, rfl⟩ := hw'
  go_wp2_with (go_at_call 20; refine (orI _ _ r1 r2 _ ?h0 ?h1).mono ?_; (case h0 => go_simp); (case h1 => go_simp); rintro e w' ⟨rfl, rfl⟩)
  go_ret
  refine ⟨rfl, nq, #[.cells #[.int .i64 x.1, .int .i64 x.2] 29, .cells #[.int .i64 y.1, .int .i64 y.2] 29, .cells #[.int .i64 r1, .int .i64 r2] 3], ?_⟩
  simp only [grow, World.alloc, World.drewN]
  congr 1
end Srt
end Go.Proofs.YtfiffhcpgojkhaaDoor
