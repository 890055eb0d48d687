/- num.Print writes the decimal digits of any int. No condition. -/
import Derived.Test.YticmkjkngngdhaaDoorProg
import Derived.WalkKit
import Derived.Below
import Derived.Outline
import Derived.WalkSpells
import Derived.LoopTactic
import Derived.Laws.BytesString
import Derived.Deep.Light
import Derived.Deep.LoopGhost
import Derived.Laws.Slices
import Derived.Laws.Cells
import Derived.OpenShut
namespace Go.Proofs.YticmkjkngngdhaaDoor
set_option maxRecDepth 10000
open Go.RowKit
set_option linter.unusedSimpArgs false
/-- The last digit. -/
def dg (v : Nat) : UInt8 := UInt8.ofNat (48 + v % 10)
/-- The digits of v ahead of ds, at most so many. -/
def dgs : Nat → Nat → List UInt8 → List UInt8
  | 0, _, ds => ds
  | f + 1, v, ds => if v / 10 = 0 then dg v :: ds else dgs f (v / 10) (dg v :: ds)
/-- An int's decimal text. -/
def printL (n : Int) : List UInt8 := if n < 0 then 45 :: dgs 20 n.natAbs [] else dgs 20 n.natAbs []
def printS (n : Int) : ByteArray := ⟨(printL n).toArray⟩
/-- The array's cells: those from a on hold ds. -/
def CellsD (b a : Nat) (ds : List UInt8) (w : World) : Prop :=
  (∀ j, j < 20 → ∃ c : Int, w.cell? ⟨b, j, none⟩ = some (.int .u8 c)) ∧ (∀ j, w.frozen? ⟨b, j, none⟩ = false) ∧ a + ds.length = 20 ∧ ∀ j, j < ds.length → w.cell? ⟨b, a + j, none⟩ = some (.int .u8 (ds.getD j 0).toNat)
theorem CellsD.put {b a : Nat} {ds : List UInt8} {w : World} (h : CellsD b (a + 1) ds w) (c : UInt8) : CellsD b a (c :: ds) (w.setCell ⟨b, a, none⟩ (.int .u8 c.toNat)) := by
  obtain ⟨h1, h2, h3, h4⟩ := h
  have hlt : a < 20 := by omega
  have ho : ∀ j, j ≠ a → (w.setCell ⟨b, a, none⟩ (.int .u8 c.toNat)).cell? ⟨b, j, none⟩ = w.cell? ⟨b, j, none⟩ := fun j hj => World.cell?_setCell_other w _ _ _ (fun e => hj (by simpa using e.symm))
  have hs : (w.setCell ⟨b, a, none⟩ (.int .u8 c.toNat)).cell? ⟨b, a, none⟩ = some (.int .u8 c.toNat) := by
    obtain ⟨x, hx⟩ := h1 a hlt
    exact World.cell?_setCell_same w _ _ hx
  refine ⟨fun j hj => ?_, fun j => ?_, by simp; omega, fun j hj => ?_⟩
  · by_cases hja : j = a
    · subst hja; exact ⟨_, hs⟩
    · rw [ho j hja]; exact h1 j hj
  · simpa using h2 j
  · cases j with
    | zero => simpa using hs
    | succ j =>
      rw [ho _ (by omega)]
      have := h4 j (by simpa using hj)
      simpa [Nat.add_assoc, Nat.add_comm 1 j] using this
theorem CellsD.start (b : Nat) (w : World) (hb : b = w.heap.size) : CellsD b 20 [] (w.alloc (.cells #[.int .u8 0, .int .u8 0, .int .u8 0, .int .u8 0, .int .u8 0, .int .u8 0, .int .u8 0, .int .u8 0, .int .u8 0, .int .u8 0, .int .u8 0, .int .u8 0, .int .u8 0, .int .u8 0, .int .u8 0, .int .u8 0, .int .u8 0, .int .u8 0, .int .u8 0, .int .u8 0] 94)) := by
  subst hb
  refine ⟨fun j hj => ⟨0, ?_⟩, fun j => by simp, rfl, fun j hj => by simp at hj⟩
  rw [World.cell?_alloc_mark]
  have : ∀ j, j < 20 → #[(0 : Int), 0, 0, 0, 0, 0, 0, 0, 0, 0, 0, 0, 0, 0, 0, 0, 0, 0, 0, 0][j]? = some 0 := by decide
  have h := this j hj
  have e : #[Value.int .u8 0, .int .u8 0, .int .u8 0, .int .u8 0, .int .u8 0, .int .u8 0, .int .u8 0, .int .u8 0, .int .u8 0, .int .u8 0, .int .u8 0, .int .u8 0, .int .u8 0, .int .u8 0, .int .u8 0, .int .u8 0, .int .u8 0, .int .u8 0, .int .u8 0, .int .u8 0] = #[(0 : Int), 0, 0, 0, 0, 0, 0, 0, 0, 0, 0, 0, 0, 0, 0, 0, 0, 0, 0, 0].map (Value.int .u8) := by simp
  rw [e, Array.getElem?_map, h]
  rfl
/-- Why there is room for one more digit. -/
theorem room (v a s : Nat) (h : v < 10 ^ (a - s)) (hv : v ≠ 0) : s < a := by
  rcases Nat.lt_or_ge s a with h' | h'
  · exact h'
  · rw [Nat.sub_eq_zero_of_le h'] at h
    simp at h
    omega
theorem less (v a s : Nat) (h : v < 10 ^ (a + 1 - s)) (hs : s < a + 1) : v / 10 < 10 ^ (a - s) := by
  rw [Nat.div_lt_iff_lt_mul (by decide)]
  rwa [show a + 1 - s = (a - s) + 1 by omega, Nat.pow_succ] at h
theorem slice20 (b m : Nat) (hm : m < 20) (W : World) : (Instr.sliceAt 94 (.pointer (some ⟨b, 0, none⟩)) (some (.int .i64 (m : Int))) none none).run Tryd.prog W = .ok (.slice (some ⟨b, m, none⟩) (20 - m) (20 - m)) W := by
  have hu : Tryd.prog.underlying 94 = some (.array (Tryd.prog.arrayLen 94) (Tryd.prog.elem 94)) := by kernel_rfl
  have hn : Tryd.prog.arrayLen 94 = 20 := by kernel_rfl
  have hs : (sizeOf (Tryd.prog.elem 94)).run Tryd.prog W = .ok 1 W := by kernel_rfl
  rw [run_sliceAt_array_l W _ _ hu _ _ (by omega) (by rw [hn]; omega), hs, hn]
  simp only [Result.andThen_ok, slicedAt, Int.toNat_natCast, Nat.mul_one]
  rw [if_neg (by omega)]
  simp [Addr.add]
  omega
theorem foldl_push (ds : List UInt8) : ∀ s : ByteArray, (ds.map fun d => (d.toNat : Int)).foldl (fun r n => r.push (UInt8.ofNat n.toNat)) s = ⟨s.data ++ ds.toArray⟩ := by
  induction ds with
  | nil => intro s; simp
  | cons d ds ih =>
    intro s
    simp only [List.map_cons, List.foldl_cons, ih]
    simp [ByteArray.push]
theorem conv_cells {b a : Nat} {ds : List UInt8} {w : World} (h : CellsD b a ds w) : (convert 95 9 (.slice (some ⟨b, a, none⟩) ds.length ds.length)).run Tryd.prog w = .ok (.string ⟨ds.toArray⟩) w := by
  rw [run_convert_bytes_string w _ _ _ _ _ _ Tryd.underlying95 Tryd.underlying5 Tryd.underlying9]
  rw [run_bytesToString w ⟨b, a, none⟩ ds.length ds.length (ds.map fun d => (d.toNat : Int))]
  · rw [foldl_push]
    simp [ByteArray.empty, ByteArray.emptyWithCapacity]
    rfl
  · have := run_loadCells_list (P := Tryd.prog) w ⟨b, a, none⟩ (ds.map fun d => .int .u8 d.toNat) (fun j v hv => by
      obtain ⟨_, _, _, h4⟩ := h
      rw [List.getElem?_map, Option.map_eq_some_iff] at hv
      obtain ⟨d, hd, rfl⟩ := hv
      have hj : j < ds.length := (List.getElem?_eq_some_iff.1 hd).1
      have h5 := h4 j hj
      rw [show ds.getD j 0 = d by simp [List.getD, hd]] at h5
      have e : (⟨b, a, none⟩ : Addr).add j = ⟨b, a + j, none⟩ := by unfold Addr.add; split <;> simp_all
      rw [e]; exact h5)
    simpa [List.map_map, Function.comp_def] using this
structure Aside (p : Prop) : Prop where mk :: (out : p)
theorem dg_toNat (v : Nat) : ((dg v).toNat : Int) = 48 + (v : Int) % 10 := by
  have : 48 + v % 10 < 256 := by omega
  unfold dg
  rw [UInt8.toNat_ofNat', Nat.mod_eq_of_lt this]
  omega
theorem u64_id (z : Int) (h : 0 ≤ z) (h' : z ≤ 9223372036854775808) : IntKind.u64.wrap z = z := by
  simp only [IntKind.wrap, IntKind.signed, Bool.false_and, Bool.false_eq_true, if_false, IntKind.bits]
  omega
theorem u64_neg (z : Int) (h : z < 0) (h' : -9223372036854775808 ≤ z) : IntKind.u64.wrap (-IntKind.u64.wrap z) = -z := by
  simp only [IntKind.wrap, IntKind.signed, Bool.false_and, Bool.false_eq_true, if_false, IntKind.bits]
  omega
theorem small_pos (n : Int) (hn : 0 ≤ n) (h : n ≤ 9223372036854775807) : n.natAbs < 10 ^ (20 - 0) := by
  have : (10 : Nat) ^ (20 - 0) = 100000000000000000000 := by decide
  rw [this]; omega
theorem small_neg (n : Int) (hn : n < 0) (h : -9223372036854775808 ≤ n) : n.natAbs < 10 ^ (20 - 1) := by
  have : (10 : Nat) ^ (20 - 1) = 10000000000000000000 := by decide
  rw [this]; omega
theorem below_set {B : Nat} {w W : World} (h : Below B w W) (m : Nat) (v : Value) : Below B w (W.setCell ⟨B, m, none⟩ v) := h.setCell (Nat.le_refl _) v
/-- What holds at the head of the loop: so many cells are left, v is left, ds is written. -/
def PrintInv (s : Nat) (n : Int) (w : World) (a v : Nat) (ds : List UInt8) (wr : World) : Prop :=
  a ≤ 20 ∧ s < a ∧ v < 10 ^ (a - s) ∧ v ≤ n.natAbs ∧ dgs a v ds = dgs 20 n.natAbs [] ∧ CellsD w.heap.size a ds wr ∧ Below w.heap.size w wr
theorem PrintInv.next {s : Nat} {n : Int} {w wr : World} {m v : Nat} {ds : List UInt8} (h : PrintInv s n w (m + 1) v ds wr) (hz : v / 10 ≠ 0) :
    PrintInv s n w m (v / 10) (dg v :: ds) (wr.setCell ⟨w.heap.size, m, none⟩ (.int .u8 (48 + (v : Int) % 10))) := by
  obtain ⟨h1, h2, h3, h4, h5, h6, h7⟩ := h
  have hl := less v m s h3 h2
  refine ⟨by omega, room _ _ _ hl hz, hl, by omega, ?_, ?_, below_set h7 _ _⟩
  · rw [← h5, dgs, if_neg hz]
  · have := h6.put (dg v)
    rwa [dg_toNat] at this
theorem PrintInv.last {s : Nat} {n : Int} {w wr : World} {m v : Nat} {ds : List UInt8} (h : PrintInv s n w (m + 1) v ds wr) (hz : v / 10 = 0) :
    dg v :: ds = dgs 20 n.natAbs [] ∧ CellsD w.heap.size m (dg v :: ds) (wr.setCell ⟨w.heap.size, m, none⟩ (.int .u8 (48 + (v : Int) % 10))) ∧ Below w.heap.size w (wr.setCell ⟨w.heap.size, m, none⟩ (.int .u8 (48 + (v : Int) % 10))) := by
  obtain ⟨h1, h2, h3, h4, h5, h6, h7⟩ := h
  refine ⟨?_, ?_, below_set h7 _ _⟩
  · rw [← h5, dgs, if_pos hz]
  · have := h6.put (dg v)
    rwa [dg_toNat] at this
set_option maxHeartbeats 1000000 in
theorem num_Print_pos (n : Int) (hn : 0 ≤ n) (hw : (Lit.int .i64 n).wf = true) (w : World) : Calls Tryd.prog 26 #[.int .i64 n] w fun e w' => e = .returned (.string (printS n)) ∧ Below w.heap.size w w' := by
  have hb := bounds_i64 hw
  have h64 : IntKind.u64.wrap n = (n.natAbs : Int) := by rw [u64_id _ hn (by omega)]; omega
  have hst : PrintInv 0 n w 20 n.natAbs [] (w.alloc (.cells #[.int .u8 0, .int .u8 0, .int .u8 0, .int .u8 0, .int .u8 0, .int .u8 0, .int .u8 0, .int .u8 0, .int .u8 0, .int .u8 0, .int .u8 0, .int .u8 0, .int .u8 0, .int .u8 0, .int .u8 0, .int .u8 0, .int .u8 0, .int .u8 0, .int .u8 0, .int .u8 0] 94)) :=
    ⟨Nat.le_refl _, by decide, small_pos n hn hb.2, Nat.le_refl _, rfl, CellsD.start _ _ rfl, (Below.refl _ _).alloc (Nat.le_refl _) _⟩
  have hsm : (n.natAbs : Int) ≤ 9223372036854775808 := by omega
  have H64 := Aside.mk h64
  have HST := Aside.mk hst
  have HSM := Aside.mk hsm
  clear h64 hst hsm hw hb
  go_enter Tryd.func26, Tryd.ntmps26
  go_wp2
  go_loopw [4, 5] (fun va vv wr => ∃ (a v : Nat) (ds : List UInt8), va = .int .i64 (a : Int) ∧ vv = .int .u64 (v : Int) ∧ Aside (PrintInv 0 n w a v ds wr)) (fun va _ _ => (intOf va).toNat)
  case atStart => exact ⟨20, n.natAbs, [], rfl, by rw [H64.out], HST⟩
  case round =>
    obtain ⟨a, v, ds, rfl, rfl, HI⟩ := hrel
    obtain ⟨m, rfl⟩ : ∃ m, a = m + 1 := ⟨a - 1, by have := HI.out.2.1; omega⟩
    have hm20 : m < 20 := by have := HI.out.1; omega
    have hms : 0 ≤ m := by have := HI.out.2.1; omega
    obtain ⟨c, hc⟩ := HI.out.2.2.2.2.2.1.1 m hm20
    have hf := HI.out.2.2.2.2.2.1.2.1 m
    clear H64 HST
    by_cases hz : v / 10 = 0
    · have hzb : (IntKind.u64.wrap ((v : Int) / 10) == 0) = true := by rw [u64_id _ (by omega) (by have := HI.out.2.2.2.1; have := HSM.out; omega)]; simp; omega
      have HL := Aside.mk (HI.out.last hz)
      clear hz
      have hcv := conv_cells HL.out.2.1
      have hl : ds.length + 1 = 20 - m := by have := HL.out.2.1.2.2.1; simp at this; omega
      rw [List.length_cons, hl] at hcv
      clear hl
      have hsl := slice20 w.heap.size m hm20
      go_wp2
      go_ret
      exact ⟨by have := HL.out.1; simp only [printS, printL]; rw [if_neg (by omega), ← this]; rfl, HL.out.2.2⟩
    · have hzb : (IntKind.u64.wrap ((v : Int) / 10) == 0) = false := by rw [u64_id _ (by omega) (by have := HI.out.2.2.2.1; have := HSM.out; omega)]; simp; omega
      have HN := Aside.mk (HI.out.next hz)
      have HV := Aside.mk (show IntKind.u64.wrap ((v : Int) / 10) = ((v / 10 : Nat) : Int) by rw [u64_id _ (by omega) (by have := HI.out.2.2.2.1; have := HSM.out; omega)]; omega)
      clear hz
      go_wp2
      go_roundw
      case rel => exact ⟨m, v / 10, dg v :: ds, rfl, by rw [HV.out], HN⟩
      case measure => simp [intOf]
set_option maxHeartbeats 1000000 in
theorem num_Print_neg (n : Int) (hn : n < 0) (hw : (Lit.int .i64 n).wf = true) (w : World) : Calls Tryd.prog 26 #[.int .i64 n] w fun e w' => e = .returned (.string (printS n)) ∧ Below w.heap.size w w' := by
  have hb := bounds_i64 hw
  have h64 : IntKind.u64.wrap (-IntKind.u64.wrap n) = (n.natAbs : Int) := by rw [u64_neg _ hn hb.1]; omega
  have hst : PrintInv 1 n w 20 n.natAbs [] (w.alloc (.cells #[.int .u8 0, .int .u8 0, .int .u8 0, .int .u8 0, .int .u8 0, .int .u8 0, .int .u8 0, .int .u8 0, .int .u8 0, .int .u8 0, .int .u8 0, .int .u8 0, .int .u8 0, .int .u8 0, .int .u8 0, .int .u8 0, .int .u8 0, .int .u8 0, .int .u8 0, .int .u8 0] 94)) :=
    ⟨Nat.le_refl _, by decide, small_neg n hn hb.1, Nat.le_refl _, rfl, CellsD.start _ _ rfl, (Below.refl _ _).alloc (Nat.le_refl _) _⟩
  have hsm : (n.natAbs : Int) ≤ 9223372036854775808 := by omega
  have H64 := Aside.mk h64
  have HST := Aside.mk hst
  have HSM := Aside.mk hsm
  clear h64 hst hsm hw hb
  go_enter Tryd.func26, Tryd.ntmps26
  go_wp2
  go_loopw [4, 5] (fun va vv wr => ∃ (a v : Nat) (ds : List UInt8), va = .int .i64 (a : Int) ∧ vv = .int .u64 (v : Int) ∧ Aside (PrintInv 1 n w a v ds wr)) (fun va _ _ => (intOf va).toNat)
  case atStart => exact ⟨20, n.natAbs, [], rfl, by rw [H64.out], HST⟩
  case round =>
    obtain ⟨a, v, ds, rfl, rfl, HI⟩ := hrel
    obtain ⟨m, rfl⟩ : ∃ m, a = m + 1 := ⟨a - 1, by have := HI.out.2.1; omega⟩
    have hm20 : m < 20 := by have := HI.out.1; omega
    have hms : 1 ≤ m := by have := HI.out.2.1; omega
    obtain ⟨c, hc⟩ := HI.out.2.2.2.2.2.1.1 m hm20
    have hf := HI.out.2.2.2.2.2.1.2.1 m
    clear H64 HST
    by_cases hz : v / 10 = 0
    · have hzb : (IntKind.u64.wrap ((v : Int) / 10) == 0) = true := by rw [u64_id _ (by omega) (by have := HI.out.2.2.2.1; have := HSM.out; omega)]; simp; omega
      have HL := Aside.mk (HI.out.last hz)
      clear hz
      obtain ⟨q, rfl⟩ : ∃ q, m = q + 1 := ⟨m - 1, by omega⟩
      have hq20 : q < 20 := by omega
      obtain ⟨c2, hc2⟩ := HL.out.2.1.1 q hq20
      have hf2 := HL.out.2.1.2.1 q
      have HM := Aside.mk (HL.out.2.1.put 45)
      have hcv := conv_cells HM.out
      have hl : ds.length + 1 + 1 = 20 - q := by have := HM.out.2.2.1; simp at this; omega
      rw [List.length_cons, List.length_cons, hl] at hcv
      rw [show ((45 : UInt8).toNat : Int) = 45 from rfl] at hcv
      clear hl
      have hsl := slice20 w.heap.size q hq20
      go_wp2
      go_ret
      exact ⟨by have := HL.out.1; simp only [printS, printL]; rw [if_pos (by omega), ← this]; rfl, below_set HL.out.2.2 _ _⟩
    · have hzb : (IntKind.u64.wrap ((v : Int) / 10) == 0) = false := by rw [u64_id _ (by omega) (by have := HI.out.2.2.2.1; have := HSM.out; omega)]; simp; omega
      have HN := Aside.mk (HI.out.next hz)
      have HV := Aside.mk (show IntKind.u64.wrap ((v : Int) / 10) = ((v / 10 : Nat) : Int) by rw [u64_id _ (by omega) (by have := HI.out.2.2.2.1; have := HSM.out; omega)]; omega)
      clear hz
      go_wp2
      go_roundw
      case rel => exact ⟨m, v / 10, dg v :: ds, rfl, by rw [HV.out], HN⟩
      case measure => simp [intOf]
/-- num.Print, of every int. -/
theorem num_Print_any (n : Int) (hw : (Lit.int .i64 n).wf = true) (w : World) : Calls Tryd.prog 26 #[.int .i64 n] w fun e w' => e = .returned (.string (printS n)) ∧ Below w.heap.size w w' := by
  by_cases hn : 0 ≤ n
  · exact num_Print_pos n hn hw w
  · exact num_Print_neg n (by omega) hw w
end Go.Proofs.YticmkjkngngdhaaDoor
