/- kind.Find: the type of a name, out of the table. -/
import Derived.Test.YticmkjkngngdhaaDoorKind
import Derived.Test.YticmkjkngngdhaaDoorNumPrint
namespace Go.Proofs.YticmkjkngngdhaaDoor
set_option maxRecDepth 10000
open Go.RowKit
def kindFd (s : ByteArray) : Int := if s = kindNm 1 then 1 else if s = kindNm 2 then 2 else if s = kindNm 3 then 3 else if s = kindNm 4 then 4 else if s = kindNm 5 then 5 else if s = kindNm 6 then 6 else 0
theorem beq_of (l : List UInt8) (s : ByteArray) (h : (l == s.toList) = true) : s = ⟨l.toArray⟩ := by
  have := eq_of_beq h
  rw [ByteArray.toList_eq] at this
  apply ByteArray.ext
  rw [this]
theorem bne_of (l : List UInt8) (s : ByteArray) (h : (l == s.toList) = false) : s ≠ ⟨l.toArray⟩ := by
  rintro rfl
  rw [ByteArray.toList_eq] at h
  simp at h
theorem kindFd_1 : kindFd ⟨#[66, 79, 79, 76]⟩ = 1 := by decide
theorem kindFd_2 : kindFd ⟨#[73, 78, 84]⟩ = 2 := by decide
theorem kindFd_3 : kindFd ⟨#[68, 73, 78, 84]⟩ = 3 := by decide
theorem kindFd_4 : kindFd ⟨#[87, 79, 82, 68]⟩ = 4 := by decide
theorem kindFd_5 : kindFd ⟨#[68, 87, 79, 82, 68]⟩ = 5 := by decide
theorem kindFd_6 : kindFd ⟨#[84, 73, 77, 69]⟩ = 6 := by decide
/-- The names ahead of t are not s. -/
def FindInv (s : ByteArray) (w : World) (t : Nat) (W : World) : Prop := 1 ≤ t ∧ t ≤ 7 ∧ (∀ j : Nat, 1 ≤ j → j < t → s ≠ kindNm j) ∧ W = w
theorem next_ne {s : ByteArray} (t : Nat) (h : ByteArray) (hne : ∀ j : Nat, 1 ≤ j → j < t → s ≠ kindNm j) (hn : s ≠ h) (hh : kindNm t = h := by rfl) : ∀ j : Nat, 1 ≤ j → j < t + 1 → s ≠ kindNm j := by
  intro j h1 h2
  by_cases hj : j = t
  · subst hj; rw [hh]; exact hn
  · exact hne j h1 (by omega)
theorem kindFd_0 (s : ByteArray) (hne : ∀ j : Nat, 1 ≤ j → j < 7 → s ≠ kindNm j) : kindFd s = 0 := by
  have h1 : s ≠ kindNm 1 := hne 1 (by omega) (by omega); have h2 : s ≠ kindNm 2 := hne 2 (by omega) (by omega); have h3 : s ≠ kindNm 3 := hne 3 (by omega) (by omega)
  have h4 : s ≠ kindNm 4 := hne 4 (by omega) (by omega); have h5 : s ≠ kindNm 5 := hne 5 (by omega) (by omega); have h6 : s ≠ kindNm 6 := hne 6 (by omega) (by omega)
  unfold kindFd
  rw [if_neg h1, if_neg h2, if_neg h3, if_neg h4, if_neg h5, if_neg h6]
set_option maxHeartbeats 4000000 in
theorem kind_Find_any (s : ByteArray) (w : World) (hT : KindTab w) : Calls Tryd.prog 63 #[.string s] w fun e w' => e = .returned (.int .i64 (kindFd s)) ∧ w' = w := by
  have hlt := hT.1
  have c1 := hT.at 3 _ rfl
  have c2 := hT.at 6 _ rfl
  have c3 := hT.at 9 _ rfl
  have c4 := hT.at 12 _ rfl
  have c5 := hT.at 15 _ rfl
  have c6 := hT.at 18 _ rfl
  clear hT
  go_enter Tryd.func63, Tryd.ntmps63
  go_wp2
  go_loopw [3] (fun vt wr => ∃ t : Nat, vt = .int .i64 (t : Int) ∧ Aside (FindInv s w t wr)) (fun vt _ => 7 - (intOf vt).toNat)
  case atStart => exact ⟨1, rfl, Aside.mk ⟨by omega, by omega, by intro j h1 h2; omega, rfl⟩⟩
  case round =>
    obtain ⟨t, rfl, inv⟩ := hrel
    obtain ⟨h1, h7, hne, rfl⟩ := inv.out
    clear inv
    have : t = 1 ∨ t = 2 ∨ t = 3 ∨ t = 4 ∨ t = 5 ∨ t = 6 ∨ t = 7 := by omega
    rcases this with rfl | rfl | rfl | rfl | rfl | rfl | rfl
    · go_wp2
      · rename_i hq
        obtain rfl := beq_of _ _ hq
        go_ret
        exact ⟨by rw [kindFd_1]; rfl, rfl⟩
      · rename_i hq
        have hn := bne_of _ _ hq
        clear hq
        go_roundw
        case rel => exact ⟨2, rfl, Aside.mk ⟨by omega, by omega, next_ne 1 _ hne hn, rfl⟩⟩
        case measure => simp [intOf]
    · go_wp2
      · rename_i hq
        obtain rfl := beq_of _ _ hq
        go_ret
        exact ⟨by rw [kindFd_2]; rfl, rfl⟩
      · rename_i hq
        have hn := bne_of _ _ hq
        clear hq
        go_roundw
        case rel => exact ⟨3, rfl, Aside.mk ⟨by omega, by omega, next_ne 2 _ hne hn, rfl⟩⟩
        case measure => simp [intOf]
    · go_wp2
      · rename_i hq
        obtain rfl := beq_of _ _ hq
        go_ret
        exact ⟨by rw [kindFd_3]; rfl, rfl⟩
      · rename_i hq
        have hn := bne_of _ _ hq
        clear hq
        go_roundw
        case rel => exact ⟨4, rfl, Aside.mk ⟨by omega, by omega, next_ne 3 _ hne hn, rfl⟩⟩
        case measure => simp [intOf]
    · go_wp2
      · rename_i hq
        obtain rfl := beq_of _ _ hq
        go_ret
        exact ⟨by rw [kindFd_4]; rfl, rfl⟩
      · rename_i hq
        have hn := bne_of _ _ hq
        clear hq
        go_roundw
        case rel => exact ⟨5, rfl, Aside.mk ⟨by omega, by omega, next_ne 4 _ hne hn, rfl⟩⟩
        case measure => simp [intOf]
    · go_wp2
      · rename_i hq
        obtain rfl := beq_of _ _ hq
        go_ret
        exact ⟨by rw [kindFd_5]; rfl, rfl⟩
      · rename_i hq
        have hn := bne_of _ _ hq
        clear hq
        go_roundw
        case rel => exact ⟨6, rfl, Aside.mk ⟨by omega, by omega, next_ne 5 _ hne hn, rfl⟩⟩
        case measure => simp [intOf]
    · go_wp2
      · rename_i hq
        obtain rfl := beq_of _ _ hq
        go_ret
        exact ⟨by rw [kindFd_6]; rfl, rfl⟩
      · rename_i hq
        have hn := bne_of _ _ hq
        clear hq
        go_roundw
        case rel => exact ⟨7, rfl, Aside.mk ⟨by omega, by omega, next_ne 6 _ hne hn, rfl⟩⟩
        case measure => simp [intOf]
    · go_wp2
      go_ret
      exact ⟨by rw [kindFd_0 s hne]; rfl, rfl⟩
end Go.Proofs.YticmkjkngngdhaaDoor
