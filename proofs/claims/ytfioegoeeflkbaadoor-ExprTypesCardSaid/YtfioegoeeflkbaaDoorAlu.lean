/- alu.Goes, which reads its table. The table's cells are a premise, which the row's own list gives. -/
import Derived.Test.YtfioegoeeflkbaaDoorTab
import Derived.Outline
import Derived.WalkSpells
import Derived.Laws.BitsLemmas
namespace Go.Proofs.YtfioegoeeflkbaaDoor
set_option maxRecDepth 10000
open Go.RowKit
set_option linter.unusedSimpArgs false
def aluSet : List Int := [76, 76, 12, 12, 12, 76, 50, 50, 50, 50, 48, 48, 126, 126, 124, 124, 124, 124]
def aluCells : List Value := [.int .i64 76, .int .i64 76, .int .i64 12, .int .i64 12, .int .i64 12, .int .i64 76, .int .i64 50, .int .i64 50, .int .i64 50, .int .i64 50, .int .i64 48, .int .i64 48, .int .i64 126, .int .i64 126, .int .i64 124, .int .i64 124, .int .i64 124, .int .i64 124]
abbrev AluTab (w : World) : Prop := Tab 1 aluCells w
/-- Does an operation go with a type? -/
def aluGo (op t : Int) : Bool := decide (1 ≤ t) && (decide (t ≤ 6) && (decide (8 ≤ op) && (decide (op ≤ 25) && decide (aluSet.getD (op - 8).toNat 0 / 2 ^ t.toNat % 2 = 1))))
theorem kind_Right_yes (t : Int) (h : 1 ≤ t) (h6 : t ≤ 6) (w : World) : Calls Tryd.prog 123 #[.int .i64 t] w fun e w' => e = .returned (.bool true) ∧ w = w' := by
  have d6 : decide (t ≤ 6) = true := by simpa using h6
  go_enter Tryd.func123, Tryd.ntmps123
  go_wp2
  go_ret
  exact ⟨by first | rfl | simp [h6], rfl⟩
theorem kind_Right_no (t : Int) (h : ¬ (1 ≤ t ∧ t ≤ 6)) (w : World) : Calls Tryd.prog 123 #[.int .i64 t] w fun e w' => e = .returned (.bool false) ∧ w = w' := by
  by_cases h1 : 1 ≤ t
  · have h6 : 6 < t := by omega
    clear h
    go_enter Tryd.func123, Tryd.ntmps123
    go_wp2
    go_ret
    exact ⟨by first | rfl | simp [h6], rfl⟩
  · have h6 : t < 1 := by omega
    clear h h1
    go_enter Tryd.func123, Tryd.ntmps123
    go_wp2
    go_ret
    exact ⟨rfl, rfl⟩
theorem and_one (x : Int) (h : 0 ≤ x) (h' : x ≤ 126) : (bits BinOp.and IntKind.i64 x 1 == 1) = decide (x % 2 = 1) := by
  have : ∀ k : Fin 127, (bits BinOp.and IntKind.i64 ((k.1 : Nat) : Int) 1 == 1) = decide (((k.1 : Nat) : Int) % 2 = 1) := by decide +kernel
  have h1 := this ⟨x.toNat, by omega⟩
  rwa [show ((x.toNat : Nat) : Int) = x by omega] at h1
theorem alu_Goes_in (n : Nat) (hn : n < 18) (t : Int) (h : 1 ≤ t) (h6 : t ≤ 6) (m : Int) (w : World) (_hlt : 1 < w.heap.size) (c : w.cell? ⟨1, n, none⟩ = some (.int .i64 m)) (m0 : 0 ≤ m) (m1 : m ≤ 126) (b : Bool) (hb : b = decide (m / 2 ^ t.toNat % 2 = 1)) :
    Calls Tryd.prog 127 #[.int .i64 ((n : Int) + 8), .int .i64 t] w fun e w' => e = .returned (.bool b) ∧ w = w' := by
  have kr := kind_Right_yes t h h6
  have e1 : (decide ((18 : Int) ≤ n)) = false := by simp; omega
  go_enter Tryd.func127, Tryd.ntmps127
  go_wp2_with (go_at_call 123; refine (kr _).mono ?_; rintro e w' ⟨rfl, rfl⟩)
  go_ret
  refine ⟨?_, rfl⟩
  rw [hb, ← and_one _ (Int.ediv_nonneg m0 (by have := Int.pow_pos (n := 2) (m := t.toNat) (by decide); omega)) (Int.le_trans (Int.ediv_le_self _ m0) m1)]
  rfl
theorem alu_cell (n : Nat) (hn : n < 18) : aluCells[n]? = some (.int .i64 (aluSet.getD n 0)) ∧ 0 ≤ aluSet.getD n 0 ∧ aluSet.getD n 0 ≤ 126 := by
  have hl : aluCells = aluSet.map (.int .i64) := rfl
  have hs : aluSet.length = 18 := rfl
  have hb : ∀ x ∈ aluSet, 0 ≤ x ∧ x ≤ 126 := by decide
  have hn' : n < aluSet.length := by omega
  have hg : aluSet.getD n 0 = aluSet[n] := by simp [List.getD_eq_getElem?_getD, List.getElem?_eq_getElem hn']
  rw [hl, hg]
  exact ⟨by simp [List.getElem?_eq_getElem hn'], hb _ (List.getElem_mem hn')⟩
theorem alu_Goes_any (op t : Int) (hw : op ≤ 9223372036854775807) (w : World) (hT : AluTab w) : Calls Tryd.prog 127 #[.int .i64 op, .int .i64 t] w fun e w' => e = .returned (.bool (aluGo op t)) ∧ w = w' := by
  by_cases h : 1 ≤ t ∧ t ≤ 6
  · by_cases h8 : 8 ≤ op ∧ op ≤ 25
    · obtain ⟨n, rfl⟩ : ∃ n : Nat, op = (n : Int) + 8 := ⟨(op - 8).toNat, by omega⟩
      have hn : n < 18 := by omega
      obtain ⟨c1, c2, c3⟩ := alu_cell n hn
      refine alu_Goes_in n hn t h.1 h.2 _ w hT.1 (hT.at n _ c1) c2 c3 _ ?_
      unfold aluGo
      rw [show ((n : Int) + 8 - 8).toNat = n by omega]
      simp [h.1, h.2, h8.2]
      omega
    · have hg : aluGo op t = false := by
        unfold aluGo
        by_cases h1 : 8 ≤ op
        · have : ¬ op ≤ 25 := by omega
          simp [this]
        · simp [h1]
      rw [hg]
      clear hg hT h
      by_cases h1 : 8 ≤ op
      · have e0 : 25 < op := by omega
        have e1 : decide (op < 8) = false := by simp; omega
        have e2 : decide (18 ≤ op - 8) = true := by simp; omega
        clear h8
        go_enter Tryd.func127, Tryd.ntmps127
        go_wp2
        go_ret
        exact ⟨rfl, rfl⟩
      · have e0 : op < 8 := by omega
        clear h8 h1
        go_enter Tryd.func127, Tryd.ntmps127
        go_wp2
        go_ret
        exact ⟨rfl, rfl⟩
  · have hg : aluGo op t = false := by
      unfold aluGo
      by_cases h1 : 1 ≤ t
      · have : ¬ t ≤ 6 := by omega
        simp [this]
      · simp [h1]
    rw [hg]
    clear hg hT
    have kr := kind_Right_no t h
    clear h
    by_cases h8 : op < 8
    · go_enter Tryd.func127, Tryd.ntmps127
      go_wp2
      go_ret
      exact ⟨rfl, rfl⟩
    · by_cases h25 : 25 < op
      · have e1 : decide (op < 8) = false := by simp; omega
        have e2 : decide (18 ≤ op - 8) = true := by simp; omega
        go_enter Tryd.func127, Tryd.ntmps127
        go_wp2
        go_ret
        exact ⟨rfl, rfl⟩
      · have h8' : 8 ≤ op := by omega
        have h25' : op ≤ 25 := by omega
        have e1 : decide (op < 8) = false := by simp; omega
        have e2 : decide (18 ≤ op - 8) = false := by simp; omega
        clear h8 h25
        go_enter Tryd.func127, Tryd.ntmps127
        go_wp2_with (go_at_call 123; refine (kr _).mono ?_; rintro e w' ⟨rfl, rfl⟩)
        go_ret
        exact ⟨rfl, rfl⟩
end Go.Proofs.YtfioegoeeflkbaaDoor
