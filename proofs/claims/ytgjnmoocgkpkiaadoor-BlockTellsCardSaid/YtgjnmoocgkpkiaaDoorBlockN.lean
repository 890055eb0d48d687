/- block.Find, out of block's table. The table's cells are a premise, which the row's own list gives. -/
import Derived.Test.YtgjnmoocgkpkiaaDoorBlock
namespace Go.Proofs.YtgjnmoocgkpkiaaDoor
set_option maxRecDepth 20000
open Go.RowKit
set_option linter.unusedSimpArgs false
set_option linter.unusedVariables false
def blkNms : List ByteArray := [⟨#[]⟩, ⟨#[84, 79, 78]⟩, ⟨#[84, 79, 70]⟩, ⟨#[84, 80]⟩, ⟨#[67, 84, 85]⟩, ⟨#[67, 84, 68]⟩, ⟨#[67, 84, 85, 68]⟩, ⟨#[82, 95, 84, 82, 73, 71]⟩, ⟨#[70, 95, 84, 82, 73, 71]⟩]
theorem blk_name_cell (n : Nat) (h : n < 9) : blockCells[n * 18]? = some (.string (blkNms.getD n ⟨#[]⟩)) := by
  have : n = 0 ∨ n = 1 ∨ n = 2 ∨ n = 3 ∨ n = 4 ∨ n = 5 ∨ n = 6 ∨ n = 7 ∨ n = 8 := by omega
  rcases this with rfl | rfl | rfl | rfl | rfl | rfl | rfl | rfl | rfl <;> rfl
/-- The first kind from n on with a name. -/
def blkFd (s : ByteArray) : Nat → Nat → Int
  | 0, _ => 0
  | k + 1, n => if 0 < n ∧ blkNms.getD n ⟨#[]⟩ = s then (n : Int) else blkFd s k (n + 1)
def blkFind (s : ByteArray) : Int := blkFd s 9 0
theorem blk_eq_of {a b : ByteArray} (h : (a.toList == b.toList) = true) : a = b := by
  have := eq_of_beq h
  rw [ByteArray.toList_eq, ByteArray.toList_eq] at this
  exact ByteArray.ext (Array.toList_inj.1 this)
theorem blk_ne_of {a b : ByteArray} (h : (a.toList == b.toList) = false) : a ≠ b := by
  rintro rfl
  simp at h
set_option maxHeartbeats 1000000 in
theorem block_Find_any (s : ByteArray) (w : World) (hT : BlockTab w) : Calls Tryd.prog 19 #[.string s] w fun e w' => e = .returned (.int .i64 (blkFind s)) ∧ w = w' := by
  have hlt := hT.1
  have HT := Beside.mk hT
  clear hT
  go_enter Tryd.func19, Tryd.ntmps19
  go_wp2
  go_loopw [4] (fun vi wr => ∃ i : Nat, vi = .int .i64 (i : Int) ∧ i ≤ 9 ∧ Beside (blkFind s = blkFd s (9 - i) i ∧ wr = w)) (fun vi _ => 9 - (intOf vi).toNat)
  case atStart => exact ⟨0, rfl, by omega, Beside.mk ⟨rfl, rfl⟩⟩
  case round =>
    obtain ⟨i, rfl, hi, inv⟩ := hrel
    obtain ⟨hf, rfl⟩ := inv.out
    have HF := Lib.hid hf
    clear hf inv
    by_cases hn : i < 9
    · have b0 : decide ((i : Int) < 9) = true := by simp; omega
      have c0 := HT.out.at _ _ (blk_name_cell i hn)
      have hz : blkFd s (9 - i) i = if 0 < i ∧ blkNms.getD i ⟨#[]⟩ = s then (i : Int) else blkFd s (9 - (i + 1)) (i + 1) := by
        rw [show 9 - i = (9 - (i + 1)) + 1 by omega]
        rfl
      have HZ := Lib.hid hz
      clear hz
      generalize blkNms.getD i ⟨#[]⟩ = z at *
      by_cases h0 : 0 < i
      · by_cases hq : (z.toList == s.toList) = true
        · have hzs : z = s := blk_eq_of hq
          have HS := Lib.hid hzs
          clear hzs
          go_wp2
          go_ret
          exact ⟨by rw [HF.out, HZ.out, if_pos ⟨h0, HS.out⟩]; rfl, rfl⟩
        · have hq2 : (z.toList == s.toList) = false := by simpa using hq
          have hzs : z ≠ s := blk_ne_of hq2
          have HS := Lib.hid hzs
          clear hzs hq
          go_wp2
          go_roundw
          case rel => exact ⟨i + 1, by go_num, by omega, Beside.mk ⟨by rw [HF.out, HZ.out, if_neg (fun h => HS.out h.2)], by first | rfl | trivial⟩⟩
          case measure => simp [intOf]; omega
      · obtain rfl : i = 0 := by omega
        go_wp2
        go_roundw
        case rel => exact ⟨1, rfl, by omega, Beside.mk ⟨by rw [HF.out, HZ.out, if_neg (fun h => absurd h.1 (by omega))], by first | rfl | trivial⟩⟩
        case measure => simp [intOf]
    · obtain rfl : i = 9 := by omega
      go_wp2
      go_ret
      exact ⟨by rw [HF.out]; rfl, rfl⟩
end Go.Proofs.YtgjnmoocgkpkiaaDoor
