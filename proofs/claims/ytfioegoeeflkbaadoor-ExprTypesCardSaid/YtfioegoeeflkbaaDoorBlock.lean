/- block's functions that read its table of kinds. The table's cells are a premise, which the row's own list gives. -/
import Derived.Test.YtfioegoeeflkbaaDoorTab
import Derived.Outline
import Derived.WalkSpells
import Derived.Deep.QuietTactic
import Derived.BigQuiet
import Derived.Deep.WholeRow
import Derived.Lib.Hide
import Derived.KernelRfl
import Derived.Test.YtfioegoeeflkbaaDoorLoads
namespace Go.Proofs.YtfioegoeeflkbaaDoor
set_option maxRecDepth 20000
open Go.RowKit
set_option linter.unusedSimpArgs false
set_option linter.unusedVariables false
def blockCells : List Value := [.string ⟨#[]⟩, .int .i64 0, .string ⟨#[]⟩, .int .i64 0, .string ⟨#[]⟩, .int .i64 0, .string ⟨#[]⟩, .int .i64 0, .string ⟨#[]⟩, .int .i64 0, .string ⟨#[]⟩, .int .i64 0, .string ⟨#[]⟩, .int .i64 0, .string ⟨#[]⟩, .int .i64 0, .string ⟨#[]⟩, .int .i64 0, .string ⟨#[84, 79, 78]⟩, .int .i64 2, .string ⟨#[73, 78]⟩, .int .i64 1, .string ⟨#[80, 84]⟩, .int .i64 6, .string ⟨#[81]⟩, .int .i64 1, .string ⟨#[69, 84]⟩, .int .i64 6, .string ⟨#[]⟩, .int .i64 0, .string ⟨#[]⟩, .int .i64 0, .string ⟨#[]⟩, .int .i64 0, .string ⟨#[]⟩, .int .i64 0, .string ⟨#[84, 79, 70]⟩, .int .i64 2, .string ⟨#[73, 78]⟩, .int .i64 1, .string ⟨#[80, 84]⟩, .int .i64 6, .string ⟨#[81]⟩, .int .i64 1, .string ⟨#[69, 84]⟩, .int .i64 6, .string ⟨#[]⟩, .int .i64 0, .string ⟨#[]⟩, .int .i64 0, .string ⟨#[]⟩, .int .i64 0, .string ⟨#[]⟩, .int .i64 0, .string ⟨#[84, 80]⟩, .int .i64 2, .string ⟨#[73, 78]⟩, .int .i64 1, .string ⟨#[80, 84]⟩, .int .i64 6, .string ⟨#[81]⟩, .int .i64 1, .string ⟨#[69, 84]⟩, .int .i64 6, .string ⟨#[]⟩, .int .i64 0, .string ⟨#[]⟩, .int .i64 0, .string ⟨#[]⟩, .int .i64 0, .string ⟨#[]⟩, .int .i64 0, .string ⟨#[67, 84, 85]⟩, .int .i64 3, .string ⟨#[67, 85]⟩, .int .i64 1, .string ⟨#[82]⟩, .int .i64 1, .string ⟨#[80, 86]⟩, .int .i64 2, .string ⟨#[81]⟩, .int .i64 1, .string ⟨#[67, 86]⟩, .int .i64 2, .string ⟨#[]⟩, .int .i64 0, .string ⟨#[]⟩, .int .i64 0, .string ⟨#[]⟩, .int .i64 0, .string ⟨#[67, 84, 68]⟩, .int .i64 3, .string ⟨#[67, 68]⟩, .int .i64 1, .string ⟨#[76, 68]⟩, .int .i64 1, .string ⟨#[80, 86]⟩, .int .i64 2, .string ⟨#[81]⟩, .int .i64 1, .string ⟨#[67, 86]⟩, .int .i64 2, .string ⟨#[]⟩, .int .i64 0, .string ⟨#[]⟩, .int .i64 0, .string ⟨#[]⟩, .int .i64 0, .string ⟨#[67, 84, 85, 68]⟩, .int .i64 5, .string ⟨#[67, 85]⟩, .int .i64 1, .string ⟨#[67, 68]⟩, .int .i64 1, .string ⟨#[82]⟩, .int .i64 1, .string ⟨#[76, 68]⟩, .int .i64 1, .string ⟨#[80, 86]⟩, .int .i64 2, .string ⟨#[81, 85]⟩, .int .i64 1, .string ⟨#[81, 68]⟩, .int .i64 1, .string ⟨#[67, 86]⟩, .int .i64 2, .string ⟨#[82, 95, 84, 82, 73, 71]⟩, .int .i64 1, .string ⟨#[67, 76, 75]⟩, .int .i64 1, .string ⟨#[81]⟩, .int .i64 1, .string ⟨#[]⟩, .int .i64 0, .string ⟨#[]⟩, .int .i64 0, .string ⟨#[]⟩, .int .i64 0, .string ⟨#[]⟩, .int .i64 0, .string ⟨#[]⟩, .int .i64 0, .string ⟨#[]⟩, .int .i64 0, .string ⟨#[70, 95, 84, 82, 73, 71]⟩, .int .i64 1, .string ⟨#[67, 76, 75]⟩, .int .i64 1, .string ⟨#[81]⟩, .int .i64 1, .string ⟨#[]⟩, .int .i64 0, .string ⟨#[]⟩, .int .i64 0, .string ⟨#[]⟩, .int .i64 0, .string ⟨#[]⟩, .int .i64 0, .string ⟨#[]⟩, .int .i64 0, .string ⟨#[]⟩, .int .i64 0]
abbrev BlockTab (w : World) : Prop := Tab 0 blockCells w
def blkName (k : Int) : ByteArray := if k = 1 then ⟨#[84, 79, 78]⟩ else if k = 2 then ⟨#[84, 79, 70]⟩ else if k = 3 then ⟨#[84, 80]⟩ else if k = 4 then ⟨#[67, 84, 85]⟩ else if k = 5 then ⟨#[67, 84, 68]⟩ else if k = 6 then ⟨#[67, 84, 85, 68]⟩ else if k = 7 then ⟨#[82, 95, 84, 82, 73, 71]⟩ else if k = 8 then ⟨#[70, 95, 84, 82, 73, 71]⟩ else ⟨#[]⟩
def blkIn (k : Int) : Int := if k = 1 then 2 else if k = 2 then 2 else if k = 3 then 2 else if k = 4 then 3 else if k = 5 then 3 else if k = 6 then 5 else if k = 7 then 1 else if k = 8 then 1 else 0
def blkFn0 (k : Int) : ByteArray := if k = 1 then ⟨#[73, 78]⟩ else if k = 2 then ⟨#[73, 78]⟩ else if k = 3 then ⟨#[73, 78]⟩ else if k = 4 then ⟨#[67, 85]⟩ else if k = 5 then ⟨#[67, 68]⟩ else if k = 6 then ⟨#[67, 85]⟩ else if k = 7 then ⟨#[67, 76, 75]⟩ else if k = 8 then ⟨#[67, 76, 75]⟩ else ⟨#[]⟩
def blkFt0 (k : Int) : Int := if k = 1 then 1 else if k = 2 then 1 else if k = 3 then 1 else if k = 4 then 1 else if k = 5 then 1 else if k = 6 then 1 else if k = 7 then 1 else if k = 8 then 1 else 0
def blkFn1 (k : Int) : ByteArray := if k = 1 then ⟨#[80, 84]⟩ else if k = 2 then ⟨#[80, 84]⟩ else if k = 3 then ⟨#[80, 84]⟩ else if k = 4 then ⟨#[82]⟩ else if k = 5 then ⟨#[76, 68]⟩ else if k = 6 then ⟨#[67, 68]⟩ else if k = 7 then ⟨#[81]⟩ else if k = 8 then ⟨#[81]⟩ else ⟨#[]⟩
def blkFt1 (k : Int) : Int := if k = 1 then 6 else if k = 2 then 6 else if k = 3 then 6 else if k = 4 then 1 else if k = 5 then 1 else if k = 6 then 1 else if k = 7 then 1 else if k = 8 then 1 else 0
def blkFn2 (k : Int) : ByteArray := if k = 1 then ⟨#[81]⟩ else if k = 2 then ⟨#[81]⟩ else if k = 3 then ⟨#[81]⟩ else if k = 4 then ⟨#[80, 86]⟩ else if k = 5 then ⟨#[80, 86]⟩ else if k = 6 then ⟨#[82]⟩ else if k = 7 then ⟨#[]⟩ else if k = 8 then ⟨#[]⟩ else ⟨#[]⟩
def blkFt2 (k : Int) : Int := if k = 1 then 1 else if k = 2 then 1 else if k = 3 then 1 else if k = 4 then 2 else if k = 5 then 2 else if k = 6 then 1 else if k = 7 then 0 else if k = 8 then 0 else 0
def blkFn3 (k : Int) : ByteArray := if k = 1 then ⟨#[69, 84]⟩ else if k = 2 then ⟨#[69, 84]⟩ else if k = 3 then ⟨#[69, 84]⟩ else if k = 4 then ⟨#[81]⟩ else if k = 5 then ⟨#[81]⟩ else if k = 6 then ⟨#[76, 68]⟩ else if k = 7 then ⟨#[]⟩ else if k = 8 then ⟨#[]⟩ else ⟨#[]⟩
def blkFt3 (k : Int) : Int := if k = 1 then 6 else if k = 2 then 6 else if k = 3 then 6 else if k = 4 then 1 else if k = 5 then 1 else if k = 6 then 1 else if k = 7 then 0 else if k = 8 then 0 else 0
def blkFn4 (k : Int) : ByteArray := if k = 1 then ⟨#[]⟩ else if k = 2 then ⟨#[]⟩ else if k = 3 then ⟨#[]⟩ else if k = 4 then ⟨#[67, 86]⟩ else if k = 5 then ⟨#[67, 86]⟩ else if k = 6 then ⟨#[80, 86]⟩ else if k = 7 then ⟨#[]⟩ else if k = 8 then ⟨#[]⟩ else ⟨#[]⟩
def blkFt4 (k : Int) : Int := if k = 1 then 0 else if k = 2 then 0 else if k = 3 then 0 else if k = 4 then 2 else if k = 5 then 2 else if k = 6 then 2 else if k = 7 then 0 else if k = 8 then 0 else 0
def blkFn5 (k : Int) : ByteArray := if k = 1 then ⟨#[]⟩ else if k = 2 then ⟨#[]⟩ else if k = 3 then ⟨#[]⟩ else if k = 4 then ⟨#[]⟩ else if k = 5 then ⟨#[]⟩ else if k = 6 then ⟨#[81, 85]⟩ else if k = 7 then ⟨#[]⟩ else if k = 8 then ⟨#[]⟩ else ⟨#[]⟩
def blkFt5 (k : Int) : Int := if k = 1 then 0 else if k = 2 then 0 else if k = 3 then 0 else if k = 4 then 0 else if k = 5 then 0 else if k = 6 then 1 else if k = 7 then 0 else if k = 8 then 0 else 0
def blkFn6 (k : Int) : ByteArray := if k = 1 then ⟨#[]⟩ else if k = 2 then ⟨#[]⟩ else if k = 3 then ⟨#[]⟩ else if k = 4 then ⟨#[]⟩ else if k = 5 then ⟨#[]⟩ else if k = 6 then ⟨#[81, 68]⟩ else if k = 7 then ⟨#[]⟩ else if k = 8 then ⟨#[]⟩ else ⟨#[]⟩
def blkFt6 (k : Int) : Int := if k = 1 then 0 else if k = 2 then 0 else if k = 3 then 0 else if k = 4 then 0 else if k = 5 then 0 else if k = 6 then 1 else if k = 7 then 0 else if k = 8 then 0 else 0
def blkFn7 (k : Int) : ByteArray := if k = 1 then ⟨#[]⟩ else if k = 2 then ⟨#[]⟩ else if k = 3 then ⟨#[]⟩ else if k = 4 then ⟨#[]⟩ else if k = 5 then ⟨#[]⟩ else if k = 6 then ⟨#[67, 86]⟩ else if k = 7 then ⟨#[]⟩ else if k = 8 then ⟨#[]⟩ else ⟨#[]⟩
def blkFt7 (k : Int) : Int := if k = 1 then 0 else if k = 2 then 0 else if k = 3 then 0 else if k = 4 then 0 else if k = 5 then 0 else if k = 6 then 2 else if k = 7 then 0 else if k = 8 then 0 else 0
def blkVal (k : Int) : Value := .agg #[.string (blkName k), .int .i64 (blkIn k), .string (blkFn0 k), .int .i64 (blkFt0 k), .string (blkFn1 k), .int .i64 (blkFt1 k), .string (blkFn2 k), .int .i64 (blkFt2 k), .string (blkFn3 k), .int .i64 (blkFt3 k), .string (blkFn4 k), .int .i64 (blkFt4 k), .string (blkFn5 k), .int .i64 (blkFt5 k), .string (blkFn6 k), .int .i64 (blkFt6 k), .string (blkFn7 k), .int .i64 (blkFt7 k)]
theorem balB {B : Nat} {w W : World} (h : Below B w W) (hB : B ≤ W.heap.size) (o : Obj) : Below B w (W.alloc o) := h.alloc hB o
theorem block_Right_yes (k : Int) (h : 1 ≤ k) (h8 : k ≤ 8) (w : World) : Calls Tryd.prog 134 #[.int .i64 k] w fun e w' => e = .returned (.bool true) ∧ w = w' := by
  have d8 : decide (k ≤ 8) = true := by simpa using h8
  go_enter Tryd.func134, Tryd.ntmps134
  go_wp2
  go_ret
  exact ⟨by first | rfl | simp [h8], rfl⟩
theorem block_Right_no (k : Int) (h : ¬ (1 ≤ k ∧ k ≤ 8)) (w : World) : Calls Tryd.prog 134 #[.int .i64 k] w fun e w' => e = .returned (.bool false) ∧ w = w' := by
  by_cases h1 : 1 ≤ k
  · have h8 : 8 < k := by omega
    clear h
    go_enter Tryd.func134, Tryd.ntmps134
    go_wp2
    go_ret
    exact ⟨by first | rfl | simp [h8], rfl⟩
  · have h8 : k < 1 := by omega
    clear h h1
    go_enter Tryd.func134, Tryd.ntmps134
    go_wp2
    go_ret
    exact ⟨rfl, rfl⟩
def Z18 : Array Value := #[.string ⟨#[]⟩, .int .i64 0, .string ⟨#[]⟩, .int .i64 0, .string ⟨#[]⟩, .int .i64 0, .string ⟨#[]⟩, .int .i64 0, .string ⟨#[]⟩, .int .i64 0, .string ⟨#[]⟩, .int .i64 0, .string ⟨#[]⟩, .int .i64 0, .string ⟨#[]⟩, .int .i64 0, .string ⟨#[]⟩, .int .i64 0]
set_option maxHeartbeats 1000000 in
theorem block_of_in (n : Nat) (h1 : 1 ≤ n) (h8 : n ≤ 8) (cs : List Value) (hl : cs.length = 18) (h1c : cs.toArray.all (·.oneCell') = true) (w : World) (hlt : 0 < w.heap.size) (hc : ∀ j v, cs[j]? = some v → w.cell? ⟨0, n * 18 + j, none⟩ = some v) : Calls Tryd.prog 126 #[.int .i64 n] w fun e w' => e = .returned (.agg cs.toArray) ∧ Below w.heap.size w w' := by
  have kr := block_Right_yes n (by omega) (by omega)
  have hl' := Lib.hid hl
  clear hl
  have HC := Lib.hid hc
  clear hc
  go_enter Tryd.func126, Tryd.ntmps126
  have hld : ∀ j v, cs[j]? = some v → (w.alloc (.cells Z18 167)).cell? ((⟨0, n * 18, none⟩ : Addr).add j) = some v := by
    intro j v hj
    have h := HC.out j v hj
    rw [show (⟨0, n * 18, none⟩ : Addr).add j = ⟨0, n * 18 + j, none⟩ by unfold Addr.add; split <;> simp_all]
    exact (((Below.refl w.heap.size w).alloc (Nat.le_refl _) _).cell (p := ⟨0, n * 18 + j, none⟩) hlt).trans h
  have hsz : (Tryd.prog.info? 167).map (·.size) = some 18 := by kernel_rfl
  have hld' := Lib.hid hld
  clear hld
  go_wp2_with (first | (go_at_call 134; refine (kr _).mono ?_; rintro e w' ⟨rfl, rfl⟩) | (refine wpList_load_cells rfl 167 (.tmp 8) rfl ⟨0, n * 18, none⟩ rfl cs _ hld'.out Tryd.underlying167 rfl (by rw [hsz, hl'.out]) ?_) | (refine wpList_store_row rfl 167 (.tmp 2) (.tmp 9) rfl w.heap.size cs.toArray rfl rfl 167 Z18 (heap_alloc_last w _) (by rw [hsz]; simp [hl'.out]) (by simp [hl'.out, Z18]) h1c ?_; rw [World.setRow_alloc_new]))
  refine bodyPost_ret (v := .agg cs.toArray) ?_ rfl ⟨rfl, (Below.refl _ _).alloc (Nat.le_refl _) _⟩
  exact results_cell_row (p := 2) (ty := 167) rfl _ _ w.heap.size 167 cs.toArray (0, 0) _ rfl (heap_alloc_last w _) Tryd.underlying167 rfl (by rw [hsz]; simp [hl'.out])
def blkCs (n : Nat) : List Value := (blockCells.drop (n * 18)).take 18
theorem blkCs_get (n j : Nat) (v : Value) (h : (blkCs n)[j]? = some v) : blockCells[n * 18 + j]? = some v := by
  unfold blkCs at h
  rw [List.getElem?_take] at h
  split at h
  · rwa [List.getElem?_drop] at h
  · cases h
theorem block_of_no (k : Int) (h : ¬ (1 ≤ k ∧ k ≤ 8)) (w : World) : Calls Tryd.prog 126 #[.int .i64 k] w fun e w' => e = .returned (blkVal k) ∧ Below w.heap.size w w' := by
  have hv : blkVal k = blkVal 0 := by
    have e : ∀ j : Int, 1 ≤ j → j ≤ 8 → ¬ k = j := by intro j h1 h2; omega
    have e1 := e 1 (by decide) (by decide); have e2 := e 2 (by decide) (by decide); have e3 := e 3 (by decide) (by decide); have e4 := e 4 (by decide) (by decide); have e5 := e 5 (by decide) (by decide); have e6 := e 6 (by decide) (by decide); have e7 := e 7 (by decide) (by decide); have e8 := e 8 (by decide) (by decide)
    simp only [blkVal, blkName, blkIn, blkFn0, blkFt0, blkFn1, blkFt1, blkFn2, blkFt2, blkFn3, blkFt3, blkFn4, blkFt4, blkFn5, blkFt5, blkFn6, blkFt6, blkFn7, blkFt7, e1, e2, e3, e4, e5, e6, e7, e8, if_false]
    rfl
  rw [hv, show blkVal 0 = .agg Z18 from rfl]
  clear hv
  have kr := block_Right_no k h
  clear h
  have hsz : (Tryd.prog.info? 167).map (·.size) = some 18 := by kernel_rfl
  go_enter Tryd.func126, Tryd.ntmps126
  go_wp2_with (first | (go_at_call 134; refine (kr _).mono ?_; rintro e w' ⟨rfl, rfl⟩) | (refine wpList_store_row rfl 167 (.tmp 2) (.tmp 6) rfl w.heap.size Z18 rfl rfl 167 Z18 (heap_alloc_last w _) (by rw [hsz]; rfl) rfl (by decide) ?_; rw [World.setRow_alloc_new]))
  refine bodyPost_ret (v := .agg Z18) ?_ rfl ⟨rfl, (Below.refl _ _).alloc (Nat.le_refl _) _⟩
  exact results_cell_row (p := 2) (ty := 167) rfl _ _ w.heap.size 167 Z18 (0, 0) _ rfl (heap_alloc_last w _) Tryd.underlying167 rfl (by rw [hsz]; rfl)
theorem block_of_any (k : Int) (w : World) (hT : BlockTab w) : Calls Tryd.prog 126 #[.int .i64 k] w fun e w' => e = .returned (blkVal k) ∧ Below w.heap.size w w' := by
  by_cases h : 1 ≤ k ∧ k ≤ 8
  · obtain ⟨n, rfl⟩ : ∃ n : Nat, k = (n : Int) := ⟨k.toNat, by omega⟩
    have h1 : 1 ≤ n := by omega
    have h8 : n ≤ 8 := by omega
    have hv : blkVal (n : Int) = .agg (blkCs n).toArray ∧ (blkCs n).length = 18 ∧ (blkCs n).toArray.all (·.oneCell') = true := by
      have : n = 1 ∨ n = 2 ∨ n = 3 ∨ n = 4 ∨ n = 5 ∨ n = 6 ∨ n = 7 ∨ n = 8 := by omega
      rcases this with rfl | rfl | rfl | rfl | rfl | rfl | rfl | rfl <;> exact ⟨rfl, rfl, by kernel_rfl⟩
    rw [hv.1]
    exact block_of_in n h1 h8 (blkCs n) hv.2.1 hv.2.2 w hT.1 (fun j v hj => hT.at _ _ (blkCs_get n j v hj))
  · exact block_of_no k h w
theorem block_Inputs_gen (z : ByteArray) (m : Int) (s0 : ByteArray) (t0 : Int) (s1 : ByteArray) (t1 : Int) (s2 : ByteArray) (t2 : Int) (s3 : ByteArray) (t3 : Int) (s4 : ByteArray) (t4 : Int) (s5 : ByteArray) (t5 : Int) (s6 : ByteArray) (t6 : Int) (s7 : ByteArray) (t7 : Int) (k : Int) (w : World) (hof : Calls Tryd.prog 126 #[.int .i64 k] w fun e w' => e = .returned (.agg #[.string z, .int .i64 m, .string s0, .int .i64 t0, .string s1, .int .i64 t1, .string s2, .int .i64 t2, .string s3, .int .i64 t3, .string s4, .int .i64 t4, .string s5, .int .i64 t5, .string s6, .int .i64 t6, .string s7, .int .i64 t7]) ∧ Below w.heap.size w w') : Calls Tryd.prog 150 #[.int .i64 k] w fun e w' => e = .returned (.int .i64 m) ∧ Below w.heap.size w w' := by
  have hfd : ∀ W : World, (Instr.field 167 (.agg #[.string z, .int .i64 m, .string s0, .int .i64 t0, .string s1, .int .i64 t1, .string s2, .int .i64 t2, .string s3, .int .i64 t3, .string s4, .int .i64 t4, .string s5, .int .i64 t5, .string s6, .int .i64 t6, .string s7, .int .i64 t7]) 1).run Tryd.prog W = .ok (.int .i64 m) W := fun W => by rfl
  go_enter Tryd.func150, Tryd.ntmps150
  go_wp2_with (go_at_call 126; refine hof.mono ?_; rintro e w' ⟨rfl, hb⟩)
  go_ret
  exact ⟨rfl, hb⟩
theorem block_Inputs_any (k : Int) (w : World) (hT : BlockTab w) : Calls Tryd.prog 150 #[.int .i64 k] w fun e w' => e = .returned (.int .i64 (blkIn k)) ∧ Below w.heap.size w w' := block_Inputs_gen _ _ _ _ _ _ _ _ _ _ _ _ _ _ _ _ _ _ k w (block_of_any k w hT)
def cntF (ts : List Int) : Int := ((ts.filter fun t => t != 0).length : Nat)
theorem cntF_snoc (ts : List Int) (t : Int) : cntF (ts ++ [t]) = cntF ts + if t = 0 then 0 else 1 := by
  unfold cntF
  rw [List.filter_append]
  by_cases h : t = 0 <;> simp [h]
theorem cntF_bd (ts : List Int) : 0 ≤ cntF ts ∧ cntF ts ≤ ts.length := by
  unfold cntF
  have := List.length_filter_le (fun t : Int => t != 0) ts
  omega
def FldInv (n : Int) (ts : List Int) (i : Nat) (w0 W1 W : World) : Prop := i ≤ 8 ∧ n = cntF (ts.take i) ∧ W = W1
set_option maxHeartbeats 4000000 in
theorem block_Fields_gen (z : ByteArray) (m : Int) (s0 : ByteArray) (t0 : Int) (s1 : ByteArray) (t1 : Int) (s2 : ByteArray) (t2 : Int) (s3 : ByteArray) (t3 : Int) (s4 : ByteArray) (t4 : Int) (s5 : ByteArray) (t5 : Int) (s6 : ByteArray) (t6 : Int) (s7 : ByteArray) (t7 : Int) (k : Int) (w : World) (hof : Calls Tryd.prog 126 #[.int .i64 k] w fun e w' => e = .returned (.agg #[.string z, .int .i64 m, .string s0, .int .i64 t0, .string s1, .int .i64 t1, .string s2, .int .i64 t2, .string s3, .int .i64 t3, .string s4, .int .i64 t4, .string s5, .int .i64 t5, .string s6, .int .i64 t6, .string s7, .int .i64 t7]) ∧ Below w.heap.size w w') : Calls Tryd.prog 125 #[.int .i64 k] w fun e w' => e = .returned (.int .i64 (cntF [t0, t1, t2, t3, t4, t5, t6, t7])) ∧ Below w.heap.size w w' := by
  have hsz : (Tryd.prog.info? 167).map (·.size) = some 18 := by kernel_rfl
  go_enter Tryd.func125, Tryd.ntmps125
  go_wp2_with (first | (go_at_call 126; refine hof.mono ?_; rintro e w1 ⟨rfl, hb⟩) | (refine wpList_store_row rfl 167 (.tmp 3) (.tmp 7) rfl w1.heap.size #[.string z, .int .i64 m, .string s0, .int .i64 t0, .string s1, .int .i64 t1, .string s2, .int .i64 t2, .string s3, .int .i64 t3, .string s4, .int .i64 t4, .string s5, .int .i64 t5, .string s6, .int .i64 t6, .string s7, .int .i64 t7] rfl rfl 167 Z18 (heap_alloc_last w1 _) (by rw [hsz]; rfl) rfl rfl ?_; rw [World.setRow_alloc_new]))
  clear hof
  go_loopw [4, 8] (fun vn vi wr => ∃ (n : Int) (i : Nat), vn = .int .i64 n ∧ vi = .int .i64 (i : Int) ∧ Beside (FldInv n [t0, t1, t2, t3, t4, t5, t6, t7] i w (w1.alloc (.cells #[.string z, .int .i64 m, .string s0, .int .i64 t0, .string s1, .int .i64 t1, .string s2, .int .i64 t2, .string s3, .int .i64 t3, .string s4, .int .i64 t4, .string s5, .int .i64 t5, .string s6, .int .i64 t6, .string s7, .int .i64 t7] 167)) wr)) (fun _ vi _ => 8 - (intOf vi).toNat)
  case atStart => exact ⟨0, 0, rfl, rfl, Beside.mk ⟨by omega, rfl, rfl⟩⟩
  case round =>
    obtain ⟨n, i, rfl, rfl, inv⟩ := hrel
    obtain ⟨hi, hn, rfl⟩ := inv.out
    clear inv
    have hnb := cntF_bd ([t0, t1, t2, t3, t4, t5, t6, t7].take i)
    rw [← hn] at hnb
    have hnl : ([t0, t1, t2, t3, t4, t5, t6, t7].take i).length ≤ 8 := by simp; omega
    have hn0 : 0 ≤ n := hnb.1
    have hn8 : n ≤ 8 := by omega
    clear hnb hnl
    have HN := Lib.hid hn
    clear hn
    have : i = 0 ∨ i = 1 ∨ i = 2 ∨ i = 3 ∨ i = 4 ∨ i = 5 ∨ i = 6 ∨ i = 7 ∨ i = 8 := by omega
    rcases this with rfl | rfl | rfl | rfl | rfl | rfl | rfl | rfl | rfl
    · have HS : Hid (cntF ([] ++ [t0]) = cntF [] + if t0 = 0 then 0 else 1) := Lib.hid (cntF_snoc _ _)
      by_cases ht : t0 = 0
      · subst ht
        go_wp2
        go_roundw
        case rel => exact ⟨n, 1, rfl, rfl, Beside.mk ⟨by omega, by rw [HN.out]; have := HS.out; simp only [if_true, Int.add_zero] at this; exact this.symm, rfl⟩⟩
        case measure => simp [intOf]
      · have hq : (t0 != 0) = true := by simpa using ht
        have HT := Lib.hid ht
        clear ht
        go_wp2
        go_roundw
        case rel => exact ⟨n + 1, 1, rfl, rfl, Beside.mk ⟨by omega, by rw [HN.out]; have := HS.out; rw [if_neg HT.out] at this; exact this.symm, rfl⟩⟩
        case measure => simp [intOf]
    · have HS : Hid (cntF ([t0] ++ [t1]) = cntF [t0] + if t1 = 0 then 0 else 1) := Lib.hid (cntF_snoc _ _)
      by_cases ht : t1 = 0
      · subst ht
        go_wp2
        go_roundw
        case rel => exact ⟨n, 2, rfl, rfl, Beside.mk ⟨by omega, by rw [HN.out]; have := HS.out; simp only [if_true, Int.add_zero] at this; exact this.symm, rfl⟩⟩
        case measure => simp [intOf]
      · have hq : (t1 != 0) = true := by simpa using ht
        have HT := Lib.hid ht
        clear ht
        go_wp2
        go_roundw
        case rel => exact ⟨n + 1, 2, rfl, rfl, Beside.mk ⟨by omega, by rw [HN.out]; have := HS.out; rw [if_neg HT.out] at this; exact this.symm, rfl⟩⟩
        case measure => simp [intOf]
    · have HS : Hid (cntF ([t0, t1] ++ [t2]) = cntF [t0, t1] + if t2 = 0 then 0 else 1) := Lib.hid (cntF_snoc _ _)
      by_cases ht : t2 = 0
      · subst ht
        go_wp2
        go_roundw
        case rel => exact ⟨n, 3, rfl, rfl, Beside.mk ⟨by omega, by rw [HN.out]; have := HS.out; simp only [if_true, Int.add_zero] at this; exact this.symm, rfl⟩⟩
        case measure => simp [intOf]
      · have hq : (t2 != 0) = true := by simpa using ht
        have HT := Lib.hid ht
        clear ht
        go_wp2
        go_roundw
        case rel => exact ⟨n + 1, 3, rfl, rfl, Beside.mk ⟨by omega, by rw [HN.out]; have := HS.out; rw [if_neg HT.out] at this; exact this.symm, rfl⟩⟩
        case measure => simp [intOf]
    · have HS : Hid (cntF ([t0, t1, t2] ++ [t3]) = cntF [t0, t1, t2] + if t3 = 0 then 0 else 1) := Lib.hid (cntF_snoc _ _)
      by_cases ht : t3 = 0
      · subst ht
        go_wp2
        go_roundw
        case rel => exact ⟨n, 4, rfl, rfl, Beside.mk ⟨by omega, by rw [HN.out]; have := HS.out; simp only [if_true, Int.add_zero] at this; exact this.symm, rfl⟩⟩
        case measure => simp [intOf]
      · have hq : (t3 != 0) = true := by simpa using ht
        have HT := Lib.hid ht
        clear ht
        go_wp2
        go_roundw
        case rel => exact ⟨n + 1, 4, rfl, rfl, Beside.mk ⟨by omega, by rw [HN.out]; have := HS.out; rw [if_neg HT.out] at this; exact this.symm, rfl⟩⟩
        case measure => simp [intOf]
    · have HS : Hid (cntF ([t0, t1, t2, t3] ++ [t4]) = cntF [t0, t1, t2, t3] + if t4 = 0 then 0 else 1) := Lib.hid (cntF_snoc _ _)
      by_cases ht : t4 = 0
      · subst ht
        go_wp2
        go_roundw
        case rel => exact ⟨n, 5, rfl, rfl, Beside.mk ⟨by omega, by rw [HN.out]; have := HS.out; simp only [if_true, Int.add_zero] at this; exact this.symm, rfl⟩⟩
        case measure => simp [intOf]
      · have hq : (t4 != 0) = true := by simpa using ht
        have HT := Lib.hid ht
        clear ht
        go_wp2
        go_roundw
        case rel => exact ⟨n + 1, 5, rfl, rfl, Beside.mk ⟨by omega, by rw [HN.out]; have := HS.out; rw [if_neg HT.out] at this; exact this.symm, rfl⟩⟩
        case measure => simp [intOf]
    · have HS : Hid (cntF ([t0, t1, t2, t3, t4] ++ [t5]) = cntF [t0, t1, t2, t3, t4] + if t5 = 0 then 0 else 1) := Lib.hid (cntF_snoc _ _)
      by_cases ht : t5 = 0
      · subst ht
        go_wp2
        go_roundw
        case rel => exact ⟨n, 6, rfl, rfl, Beside.mk ⟨by omega, by rw [HN.out]; have := HS.out; simp only [if_true, Int.add_zero] at this; exact this.symm, rfl⟩⟩
        case measure => simp [intOf]
      · have hq : (t5 != 0) = true := by simpa using ht
        have HT := Lib.hid ht
        clear ht
        go_wp2
        go_roundw
        case rel => exact ⟨n + 1, 6, rfl, rfl, Beside.mk ⟨by omega, by rw [HN.out]; have := HS.out; rw [if_neg HT.out] at this; exact this.symm, rfl⟩⟩
        case measure => simp [intOf]
    · have HS : Hid (cntF ([t0, t1, t2, t3, t4, t5] ++ [t6]) = cntF [t0, t1, t2, t3, t4, t5] + if t6 = 0 then 0 else 1) := Lib.hid (cntF_snoc _ _)
      by_cases ht : t6 = 0
      · subst ht
        go_wp2
        go_roundw
        case rel => exact ⟨n, 7, rfl, rfl, Beside.mk ⟨by omega, by rw [HN.out]; have := HS.out; simp only [if_true, Int.add_zero] at this; exact this.symm, rfl⟩⟩
        case measure => simp [intOf]
      · have hq : (t6 != 0) = true := by simpa using ht
        have HT := Lib.hid ht
        clear ht
        go_wp2
        go_roundw
        case rel => exact ⟨n + 1, 7, rfl, rfl, Beside.mk ⟨by omega, by rw [HN.out]; have := HS.out; rw [if_neg HT.out] at this; exact this.symm, rfl⟩⟩
        case measure => simp [intOf]
    · have HS : Hid (cntF ([t0, t1, t2, t3, t4, t5, t6] ++ [t7]) = cntF [t0, t1, t2, t3, t4, t5, t6] + if t7 = 0 then 0 else 1) := Lib.hid (cntF_snoc _ _)
      by_cases ht : t7 = 0
      · subst ht
        go_wp2
        go_roundw
        case rel => exact ⟨n, 8, rfl, rfl, Beside.mk ⟨by omega, by rw [HN.out]; have := HS.out; simp only [if_true, Int.add_zero] at this; exact this.symm, rfl⟩⟩
        case measure => simp [intOf]
      · have hq : (t7 != 0) = true := by simpa using ht
        have HT := Lib.hid ht
        clear ht
        go_wp2
        go_roundw
        case rel => exact ⟨n + 1, 8, rfl, rfl, Beside.mk ⟨by omega, by rw [HN.out]; have := HS.out; rw [if_neg HT.out] at this; exact this.symm, rfl⟩⟩
        case measure => simp [intOf]
    · go_wp2
      go_ret
      exact ⟨by rw [HN.out]; rfl, balB hb hb.size _⟩
def blkTypes (k : Int) : List Int := [blkFt0 k, blkFt1 k, blkFt2 k, blkFt3 k, blkFt4 k, blkFt5 k, blkFt6 k, blkFt7 k]
def blkCnt (k : Int) : Int := cntF (blkTypes k)
theorem block_Fields_any (k : Int) (w : World) (hT : BlockTab w) : Calls Tryd.prog 125 #[.int .i64 k] w fun e w' => e = .returned (.int .i64 (blkCnt k)) ∧ Below w.heap.size w w' := block_Fields_gen _ _ _ _ _ _ _ _ _ _ _ _ _ _ _ _ _ _ k w (block_of_any k w hT)
end Go.Proofs.YtfioegoeeflkbaaDoor
