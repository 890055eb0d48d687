/- op's functions that read its table of operations. The table's cells are a premise, which the row's own list gives. -/
import Derived.Test.YticmkjkngngdhaaDoorTab
import Derived.Test.YticmkjkngngdhaaDoorLoads
import Derived.Outline
import Derived.WalkSpells
import Derived.RegionTactic
import Derived.Lib.Hide
namespace Go.Proofs.YticmkjkngngdhaaDoor
set_option maxRecDepth 20000
open Go.RowKit
set_option linter.unusedSimpArgs false
set_option linter.unusedVariables false
def opWs : List ByteArray := [⟨#[110, 111, 112]⟩, ⟨#[99, 111, 110, 115, 116]⟩, ⟨#[108, 111, 97, 100]⟩, ⟨#[115, 116, 111, 114, 101]⟩, ⟨#[103, 101, 116]⟩, ⟨#[112, 117, 116]⟩, ⟨#[105, 116, 101, 109]⟩, ⟨#[107, 101, 101, 112]⟩, ⟨#[97, 100, 100]⟩, ⟨#[115, 117, 98]⟩, ⟨#[109, 117, 108]⟩, ⟨#[100, 105, 118]⟩, ⟨#[109, 111, 100]⟩, ⟨#[110, 101, 103]⟩, ⟨#[97, 110, 100]⟩, ⟨#[111, 114]⟩, ⟨#[120, 111, 114]⟩, ⟨#[110, 111, 116]⟩, ⟨#[115, 104, 108]⟩, ⟨#[115, 104, 114]⟩, ⟨#[101, 113]⟩, ⟨#[110, 101]⟩, ⟨#[108, 116]⟩, ⟨#[108, 101]⟩, ⟨#[103, 116]⟩, ⟨#[103, 101]⟩, ⟨#[99, 111, 110, 118]⟩, ⟨#[100, 117, 112]⟩, ⟨#[112, 111, 112]⟩, ⟨#[115, 119, 97, 112]⟩, ⟨#[106, 117, 109, 112]⟩, ⟨#[102, 97, 108, 115, 101]⟩, ⟨#[115, 119, 105, 116, 99, 104]⟩, ⟨#[99, 97, 108, 108]⟩, ⟨#[114, 101, 116]⟩, ⟨#[115, 101, 116]⟩, ⟨#[114, 117, 110]⟩, ⟨#[111, 117, 116]⟩]
def opAs : List Int := [10, 1, 2, 2, 3, 3, 2, 2, 4, 4, 4, 4, 4, 4, 4, 4, 4, 4, 4, 4, 4, 4, 4, 4, 4, 4, 4, 0, 0, 0, 5, 5, 6, 7, 0, 8, 8, 8]
def opBs : List Int := [10, 0, 0, 0, 0, 0, 0, 0, 0, 0, 0, 0, 0, 0, 0, 0, 0, 0, 0, 0, 0, 0, 0, 0, 0, 0, 4, 0, 0, 0, 10, 10, 10, 0, 0, 9, 0, 9]
def opCells : List Value := [.string ⟨#[110, 111, 112]⟩, .int .i64 10, .int .i64 10, .string ⟨#[99, 111, 110, 115, 116]⟩, .int .i64 1, .int .i64 0, .string ⟨#[108, 111, 97, 100]⟩, .int .i64 2, .int .i64 0, .string ⟨#[115, 116, 111, 114, 101]⟩, .int .i64 2, .int .i64 0, .string ⟨#[103, 101, 116]⟩, .int .i64 3, .int .i64 0, .string ⟨#[112, 117, 116]⟩, .int .i64 3, .int .i64 0, .string ⟨#[105, 116, 101, 109]⟩, .int .i64 2, .int .i64 0, .string ⟨#[107, 101, 101, 112]⟩, .int .i64 2, .int .i64 0, .string ⟨#[97, 100, 100]⟩, .int .i64 4, .int .i64 0, .string ⟨#[115, 117, 98]⟩, .int .i64 4, .int .i64 0, .string ⟨#[109, 117, 108]⟩, .int .i64 4, .int .i64 0, .string ⟨#[100, 105, 118]⟩, .int .i64 4, .int .i64 0, .string ⟨#[109, 111, 100]⟩, .int .i64 4, .int .i64 0, .string ⟨#[110, 101, 103]⟩, .int .i64 4, .int .i64 0, .string ⟨#[97, 110, 100]⟩, .int .i64 4, .int .i64 0, .string ⟨#[111, 114]⟩, .int .i64 4, .int .i64 0, .string ⟨#[120, 111, 114]⟩, .int .i64 4, .int .i64 0, .string ⟨#[110, 111, 116]⟩, .int .i64 4, .int .i64 0, .string ⟨#[115, 104, 108]⟩, .int .i64 4, .int .i64 0, .string ⟨#[115, 104, 114]⟩, .int .i64 4, .int .i64 0, .string ⟨#[101, 113]⟩, .int .i64 4, .int .i64 0, .string ⟨#[110, 101]⟩, .int .i64 4, .int .i64 0, .string ⟨#[108, 116]⟩, .int .i64 4, .int .i64 0, .string ⟨#[108, 101]⟩, .int .i64 4, .int .i64 0, .string ⟨#[103, 116]⟩, .int .i64 4, .int .i64 0, .string ⟨#[103, 101]⟩, .int .i64 4, .int .i64 0, .string ⟨#[99, 111, 110, 118]⟩, .int .i64 4, .int .i64 4, .string ⟨#[100, 117, 112]⟩, .int .i64 0, .int .i64 0, .string ⟨#[112, 111, 112]⟩, .int .i64 0, .int .i64 0, .string ⟨#[115, 119, 97, 112]⟩, .int .i64 0, .int .i64 0, .string ⟨#[106, 117, 109, 112]⟩, .int .i64 5, .int .i64 10, .string ⟨#[102, 97, 108, 115, 101]⟩, .int .i64 5, .int .i64 10, .string ⟨#[115, 119, 105, 116, 99, 104]⟩, .int .i64 6, .int .i64 10, .string ⟨#[99, 97, 108, 108]⟩, .int .i64 7, .int .i64 0, .string ⟨#[114, 101, 116]⟩, .int .i64 0, .int .i64 0, .string ⟨#[115, 101, 116]⟩, .int .i64 8, .int .i64 9, .string ⟨#[114, 117, 110]⟩, .int .i64 8, .int .i64 0, .string ⟨#[111, 117, 116]⟩, .int .i64 8, .int .i64 9]
abbrev OpTab (w : World) : Prop := Tab 2 opCells w
def opIn (n : Int) : Bool := decide (0 ≤ n) && decide (n < 38)
def opWd (n : Int) : ByteArray := if opIn n = true then opWs.getD n.toNat ⟨#[]⟩ else ⟨#[]⟩
def opA (n : Int) : Int := if opIn n = true then opAs.getD n.toNat 0 else 0
def opB (n : Int) : Int := if opIn n = true then opBs.getD n.toNat 0 else 0
theorem op_cells (n : Nat) (h : n < 38) : opCells[n * 3]? = some (.string (opWs.getD n ⟨#[]⟩)) ∧ opCells[n * 3 + 1]? = some (.int .i64 (opAs.getD n 0)) ∧ opCells[n * 3 + 2]? = some (.int .i64 (opBs.getD n 0)) := by
  have : n = 0 ∨ n = 1 ∨ n = 2 ∨ n = 3 ∨ n = 4 ∨ n = 5 ∨ n = 6 ∨ n = 7 ∨ n = 8 ∨ n = 9 ∨ n = 10 ∨ n = 11 ∨ n = 12 ∨ n = 13 ∨ n = 14 ∨ n = 15 ∨ n = 16 ∨ n = 17 ∨ n = 18 ∨ n = 19 ∨ n = 20 ∨ n = 21 ∨ n = 22 ∨ n = 23 ∨ n = 24 ∨ n = 25 ∨ n = 26 ∨ n = 27 ∨ n = 28 ∨ n = 29 ∨ n = 30 ∨ n = 31 ∨ n = 32 ∨ n = 33 ∨ n = 34 ∨ n = 35 ∨ n = 36 ∨ n = 37 := by omega
  rcases this with rfl | rfl | rfl | rfl | rfl | rfl | rfl | rfl | rfl | rfl | rfl | rfl | rfl | rfl | rfl | rfl | rfl | rfl | rfl | rfl | rfl | rfl | rfl | rfl | rfl | rfl | rfl | rfl | rfl | rfl | rfl | rfl | rfl | rfl | rfl | rfl | rfl | rfl <;> exact ⟨rfl, rfl, rfl⟩
theorem op_Is_yes (n : Int) (h : 0 ≤ n) (h8 : n < 38) (w : World) : Calls Tryd.prog 81 #[.int .i64 n] w fun e w' => e = .returned (.bool true) ∧ w = w' := by
  have d8 : decide (n < 38) = true := by simpa using h8
  go_enter Tryd.func81, Tryd.ntmps81
  go_wp2
  go_ret
  exact ⟨by first | rfl | simp [h8], rfl⟩
theorem op_Is_no (n : Int) (h : ¬ (0 ≤ n ∧ n < 38)) (w : World) : Calls Tryd.prog 81 #[.int .i64 n] w fun e w' => e = .returned (.bool false) ∧ w = w' := by
  by_cases h1 : 0 ≤ n
  · have h8 : 38 ≤ n := by omega
    clear h
    go_enter Tryd.func81, Tryd.ntmps81
    go_wp2
    go_ret
    exact ⟨by first | rfl | simp [h8], rfl⟩
  · have h8 : n < 0 := by omega
    clear h h1
    go_enter Tryd.func81, Tryd.ntmps81
    go_wp2
    go_ret
    exact ⟨rfl, rfl⟩
theorem opIn_no (n : Int) (h : ¬ (0 ≤ n ∧ n < 38)) : opIn n = false := by
  unfold opIn
  by_cases h1 : 0 ≤ n
  · have : ¬ n < 38 := by omega
    simp [this]
  · simp [h1]
theorem op_Word_any (n : Int) (w : World) (hT : OpTab w) : Calls Tryd.prog 76 #[.int .i64 n] w fun e w' => e = .returned (.string (opWd n)) ∧ w = w' := by
  by_cases h : 0 ≤ n ∧ n < 38
  · obtain ⟨m, rfl⟩ : ∃ m : Nat, n = (m : Int) := ⟨n.toNat, by omega⟩
    have hm : m < 38 := by omega
    have hv : opWd (m : Int) = opWs.getD m ⟨#[]⟩ := by unfold opWd opIn; rw [if_pos (by simp; omega)]; rfl
    rw [hv]
    have hlt := hT.1
    have c0 := hT.at _ _ (op_cells m hm).1
    generalize opWs.getD m ⟨#[]⟩ = z at *
    have kr := op_Is_yes (m : Int) (by omega) (by omega)
    clear hT hv h
    go_enter Tryd.func76, Tryd.ntmps76
    go_wp2_with (go_at_call 81; refine (kr _).mono ?_; rintro e w' ⟨rfl, rfl⟩)
    go_ret
    exact ⟨rfl, rfl⟩
  · have hv : opWd n = ⟨#[]⟩ := by unfold opWd; rw [opIn_no n h]; rfl
    rw [hv]
    have kr := op_Is_no n h
    clear hT hv h
    go_enter Tryd.func76, Tryd.ntmps76
    go_wp2_with (go_at_call 81; refine (kr _).mono ?_; rintro e w' ⟨rfl, rfl⟩)
    go_ret
    exact ⟨rfl, rfl⟩
theorem below_drewO {B : Nat} {w W : World} (h : Below B w W) : Below B w W.drew := ⟨h.os, h.tape, h.output, h.size, h.block⟩
theorem op_Shape_any (n : Int) (w : World) (hT : OpTab w) : Calls Tryd.prog 77 #[.int .i64 n] w fun e w' => e = .returned (.tuple #[.int .i64 (opA n), .int .i64 (opB n)]) ∧ ∃ q, w' = w.drewN q := by
  by_cases h : 0 ≤ n ∧ n < 38
  · obtain ⟨m, rfl⟩ : ∃ m : Nat, n = (m : Int) := ⟨n.toNat, by omega⟩
    have hm : m < 38 := by omega
    have hv : opA (m : Int) = opAs.getD m 0 := by unfold opA opIn; rw [if_pos (by simp; omega)]; rfl
    have hv2 : opB (m : Int) = opBs.getD m 0 := by unfold opB opIn; rw [if_pos (by simp; omega)]; rfl
    rw [hv, hv2]
    have hlt := hT.1
    have c1 := hT.at _ _ (op_cells m hm).2.1
    have c2 := hT.at _ _ (op_cells m hm).2.2
    generalize opAs.getD m 0 = z at *
    generalize opBs.getD m 0 = y at *
    have kr := op_Is_yes (m : Int) (by omega) (by omega)
    clear hT hv hv2 h
    go_enter Tryd.func77, Tryd.ntmps77
    go_wp2_with (go_at_call 81; refine (kr _).mono ?_; rintro e w' ⟨rfl, rfl⟩)
    go_region
    all_goals (go_wp2; go_ret2; exact ⟨rfl, by first | exact ⟨0, rfl⟩ | exact ⟨1, rfl⟩ | exact ⟨2, rfl⟩ | exact ⟨_, rfl⟩⟩)
  · have hv : opA n = 0 := by unfold opA; rw [opIn_no n h]; rfl
    have hv2 : opB n = 0 := by unfold opB; rw [opIn_no n h]; rfl
    rw [hv, hv2]
    have kr := op_Is_no n h
    clear hT hv hv2 h
    go_enter Tryd.func77, Tryd.ntmps77
    go_wp2_with (go_at_call 81; refine (kr _).mono ?_; rintro e w' ⟨rfl, rfl⟩)
    go_ret2
    exact ⟨rfl, 0, rfl⟩
/-- The first operation from n on with a word. -/
def opFd (s : ByteArray) : Nat → Nat → Int × Bool
  | 0, _ => (0, false)
  | k + 1, n => if opWs.getD n ⟨#[]⟩ = s then ((n : Int), true) else opFd s k (n + 1)
def opFind (s : ByteArray) : Int × Bool := opFd s 38 0
theorem op_eq_of {a b : ByteArray} (h : (a.toList == b.toList) = true) : a = b := by
  have := eq_of_beq h
  rw [ByteArray.toList_eq, ByteArray.toList_eq] at this
  exact ByteArray.ext (Array.toList_inj.1 this)
theorem op_ne_of {a b : ByteArray} (h : (a.toList == b.toList) = false) : a ≠ b := by
  rintro rfl
  simp at h
set_option maxHeartbeats 1000000 in
theorem op_Find_any (s : ByteArray) (w : World) (hT : OpTab w) : Calls Tryd.prog 73 #[.string s] w fun e w' => e = .returned (.tuple #[.int .i64 (opFind s).1, .bool (opFind s).2]) ∧ w = w' := by
  have hlt := hT.1
  have HT := Beside.mk hT
  clear hT
  go_enter Tryd.func73, Tryd.ntmps73
  go_wp2
  go_loopw [5] (fun vi wr => ∃ i : Nat, vi = .int .i64 (i : Int) ∧ i ≤ 38 ∧ Beside (opFind s = opFd s (38 - i) i ∧ wr = w)) (fun vi _ => 38 - (intOf vi).toNat)
  case atStart => exact ⟨0, rfl, by omega, Beside.mk ⟨rfl, rfl⟩⟩
  case round =>
    obtain ⟨i, rfl, hi, inv⟩ := hrel
    obtain ⟨hf, rfl⟩ := inv.out
    have HF := Lib.hid hf
    clear hf inv
    by_cases hn : i < 38
    · have c0 := HT.out.at _ _ (op_cells i hn).1
      have hz : opFd s (38 - i) i = if opWs.getD i ⟨#[]⟩ = s then ((i : Int), true) else opFd s (38 - (i + 1)) (i + 1) := by
        rw [show 38 - i = (38 - (i + 1)) + 1 by omega]
        rfl
      have HZ := Lib.hid hz
      clear hz
      generalize opWs.getD i ⟨#[]⟩ = z at *
      have b0 : decide ((i : Int) < 38) = true := by simp; omega
      by_cases hq : (z.toList == s.toList) = true
      · have hzs : z = s := op_eq_of hq
        have HS := Lib.hid hzs
        clear hzs
        go_wp2
        go_ret2
        exact ⟨by rw [HF.out, HZ.out, if_pos HS.out]; rfl, rfl⟩
      · have hq2 : (z.toList == s.toList) = false := by simpa using hq
        have hzs : z ≠ s := op_ne_of hq2
        have HS := Lib.hid hzs
        clear hzs hq
        go_wp2
        go_roundw
        case rel => exact ⟨i + 1, by go_num, by omega, Beside.mk ⟨by rw [HF.out, HZ.out, if_neg HS.out], by first | rfl | trivial⟩⟩
        case measure => simp [intOf]; omega
    · obtain rfl : i = 38 := by omega
      go_wp2
      go_ret2
      exact ⟨by rw [HF.out]; rfl, rfl⟩
end Go.Proofs.YticmkjkngngdhaaDoor
