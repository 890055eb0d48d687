/- kind's functions that read its table. The table's cells are a premise, which the row's own list gives. -/
import Derived.Test.YticmkjkngngdhaaDoorTab
import Derived.Outline
import Derived.WalkSpells
namespace Go.Proofs.YticmkjkngngdhaaDoor
set_option maxRecDepth 10000
open Go.RowKit
set_option linter.unusedSimpArgs false
def kindCells : List Value := [.string ⟨#[]⟩, .int .i64 0, .bool false, .string ⟨#[66, 79, 79, 76]⟩, .int .i64 1, .bool false, .string ⟨#[73, 78, 84]⟩, .int .i64 16, .bool true, .string ⟨#[68, 73, 78, 84]⟩, .int .i64 32, .bool true, .string ⟨#[87, 79, 82, 68]⟩, .int .i64 16, .bool false, .string ⟨#[68, 87, 79, 82, 68]⟩, .int .i64 32, .bool false, .string ⟨#[84, 73, 77, 69]⟩, .int .i64 64, .bool true]
abbrev KindTab (w : World) : Prop := Tab 1 kindCells w
def kindNm (t : Int) : ByteArray := if t = 1 then ⟨#[66, 79, 79, 76]⟩ else if t = 2 then ⟨#[73, 78, 84]⟩ else if t = 3 then ⟨#[68, 73, 78, 84]⟩ else if t = 4 then ⟨#[87, 79, 82, 68]⟩ else if t = 5 then ⟨#[68, 87, 79, 82, 68]⟩ else if t = 6 then ⟨#[84, 73, 77, 69]⟩ else ⟨#[]⟩
def kindBits (t : Int) : Int := if t = 1 then 1 else if t = 2 then 16 else if t = 3 then 32 else if t = 4 then 16 else if t = 5 then 32 else if t = 6 then 64 else 0
def kindSg (t : Int) : Bool := t == 2 || t == 3 || t == 6
theorem balK {B : Nat} {w W : World} (h : Below B w W) (hB : B ≤ W.heap.size) (o : Obj) : Below B w (W.alloc o) := h.alloc hB o
set_option maxHeartbeats 1000000 in
theorem kind_of_any (t : Int) (w : World) (hT : KindTab w) : Calls Tryd.prog 116 #[.int .i64 t] w fun e w' => e = .returned (.agg #[.string (kindNm t), .int .i64 (kindBits t), .bool (kindSg t)]) ∧ Below w.heap.size w w' := by
  have hB : ∀ W : World, Below w.heap.size w W → Below w.heap.size w W := fun _ h => h
  by_cases h : 1 ≤ t ∧ t ≤ 6
  · have : t = 1 ∨ t = 2 ∨ t = 3 ∨ t = 4 ∨ t = 5 ∨ t = 6 := by omega
    clear h
    have hlt := hT.1
    rcases this with rfl | rfl | rfl | rfl | rfl | rfl
    · have c0 := hT.at 3 _ rfl
      have c1 := hT.at 4 _ rfl
      have c2 := hT.at 5 _ rfl
      clear hT
      go_enter Tryd.func116, Tryd.ntmps116
      go_wp2
      refine bodyPost_ret (v := .agg #[.string ⟨#[66, 79, 79, 76]⟩, .int .i64 1, .bool false]) ?_ rfl ⟨by simp [kindNm, kindBits, kindSg], balK (Below.refl _ _) (Nat.le_refl _) _⟩
      simp [results, Tryd.results116, go_sem]
    · have c0 := hT.at 6 _ rfl
      have c1 := hT.at 7 _ rfl
      have c2 := hT.at 8 _ rfl
      clear hT
      go_enter Tryd.func116, Tryd.ntmps116
      go_wp2
      refine bodyPost_ret (v := .agg #[.string ⟨#[73, 78, 84]⟩, .int .i64 16, .bool true]) ?_ rfl ⟨by simp [kindNm, kindBits, kindSg], balK (Below.refl _ _) (Nat.le_refl _) _⟩
      simp [results, Tryd.results116, go_sem]
    · have c0 := hT.at 9 _ rfl
      have c1 := hT.at 10 _ rfl
      have c2 := hT.at 11 _ rfl
      clear hT
      go_enter Tryd.func116, Tryd.ntmps116
      go_wp2
      refine bodyPost_ret (v := .agg #[.string ⟨#[68, 73, 78, 84]⟩, .int .i64 32, .bool true]) ?_ rfl ⟨by simp [kindNm, kindBits, kindSg], balK (Below.refl _ _) (Nat.le_refl _) _⟩
      simp [results, Tryd.results116, go_sem]
    · have c0 := hT.at 12 _ rfl
      have c1 := hT.at 13 _ rfl
      have c2 := hT.at 14 _ rfl
      clear hT
      go_enter Tryd.func116, Tryd.ntmps116
      go_wp2
      refine bodyPost_ret (v := .agg #[.string ⟨#[87, 79, 82, 68]⟩, .int .i64 16, .bool false]) ?_ rfl ⟨by simp [kindNm, kindBits, kindSg], balK (Below.refl _ _) (Nat.le_refl _) _⟩
      simp [results, Tryd.results116, go_sem]
    · have c0 := hT.at 15 _ rfl
      have c1 := hT.at 16 _ rfl
      have c2 := hT.at 17 _ rfl
      clear hT
      go_enter Tryd.func116, Tryd.ntmps116
      go_wp2
      refine bodyPost_ret (v := .agg #[.string ⟨#[68, 87, 79, 82, 68]⟩, .int .i64 32, .bool false]) ?_ rfl ⟨by simp [kindNm, kindBits, kindSg], balK (Below.refl _ _) (Nat.le_refl _) _⟩
      simp [results, Tryd.results116, go_sem]
    · have c0 := hT.at 18 _ rfl
      have c1 := hT.at 19 _ rfl
      have c2 := hT.at 20 _ rfl
      clear hT
      go_enter Tryd.func116, Tryd.ntmps116
      go_wp2
      refine bodyPost_ret (v := .agg #[.string ⟨#[84, 73, 77, 69]⟩, .int .i64 64, .bool true]) ?_ rfl ⟨by simp [kindNm, kindBits, kindSg], balK (Below.refl _ _) (Nat.le_refl _) _⟩
      simp [results, Tryd.results116, go_sem]
  · clear hT
    by_cases h1 : 1 ≤ t
    · have hd1 : decide (1 ≤ t) = true := by simp; omega
      have hd6 : decide (t ≤ 6) = false := by simp; omega
      go_enter Tryd.func116, Tryd.ntmps116
      go_wp2
      refine bodyPost_ret (v := .agg #[.string ⟨#[]⟩, .int .i64 0, .bool false]) ?_ rfl ⟨?_, balK (Below.refl _ _) (Nat.le_refl _) _⟩
      · simp [results, Tryd.results116, go_sem]
      · have e1 : ¬ t = 1 := by omega
        have e2 : ¬ t = 2 := by omega
        have e3 : ¬ t = 3 := by omega
        have e4 : ¬ t = 4 := by omega
        have e5 : ¬ t = 5 := by omega
        have e6 : ¬ t = 6 := by omega
        simp [kindNm, kindBits, kindSg, e1, e2, e3, e4, e5, e6]
    · have hd1 : decide (1 ≤ t) = false := by simp; omega
      go_enter Tryd.func116, Tryd.ntmps116
      go_wp2
      refine bodyPost_ret (v := .agg #[.string ⟨#[]⟩, .int .i64 0, .bool false]) ?_ rfl ⟨?_, balK (Below.refl _ _) (Nat.le_refl _) _⟩
      · simp [results, Tryd.results116, go_sem]
      · have e1 : ¬ t = 1 := by omega
        have e2 : ¬ t = 2 := by omega
        have e3 : ¬ t = 3 := by omega
        have e4 : ¬ t = 4 := by omega
        have e5 : ¬ t = 5 := by omega
        have e6 : ¬ t = 6 := by omega
        simp [kindNm, kindBits, kindSg, e1, e2, e3, e4, e5, e6]
theorem kind_Name_any (t : Int) (w : World) (hT : KindTab w) : Calls Tryd.prog 67 #[.int .i64 t] w fun e w' => e = .returned (.string (kindNm t)) ∧ Below w.heap.size w w' := by
  have s1 := kind_of_any t w hT
  generalize kindNm t = z at *
  generalize kindBits t = y at *
  generalize kindSg t = x at *
  have hfd : ∀ W : World, (Instr.field 127 (.agg #[.string z, .int .i64 y, .bool x]) 0).run Tryd.prog W = .ok (.string z) W := fun W => by rfl
  clear hT
  go_enter Tryd.func67, Tryd.ntmps67
  go_wp2_with (go_at_call 116; refine s1.mono ?_; rintro e w' ⟨rfl, hb⟩)
  go_ret
  exact ⟨rfl, hb⟩
end Go.Proofs.YticmkjkngngdhaaDoor
