/- num.Value, plain: what it tells, and that it reads each literal back. No condition. -/
import Derived.Test.YticmkjkngngdhaaDoorPValNumBack
namespace Go.Proofs.YticmkjkngngdhaaDoor.PNumBack
open Go.Proofs.YticmkjkngngdhaaDoor Go.Proofs.YticmkjkngngdhaaDoor.QNumBack Go.RowKit Go.Proofs.YticmkjkngngdhaaDoorW.PrintWords Go.Proofs.YticmkjkngngdhaaDoorW.PrintLast
set_option linter.unusedSimpArgs false
theorem index_hit35 : ∀ (a b : List UInt8), 35 ∉ a → Lib.index (a ++ 35 :: b) [35] = (a.length : Int)
  | [], b, _ => by simp [Lib.index]
  | x :: a, b, h => by
    have hx : x ≠ 35 := fun e => h (by simp [e])
    have ih := index_hit35 a b (fun e => h (by simp [e]))
    simp only [List.cons_append, Lib.index]
    rw [ih]
    rw [if_neg (by simp; exact fun e => hx e.symm), if_neg (by simp)]
    simp
theorem index_miss35 : ∀ (a : List UInt8), 35 ∉ a → Lib.index a [35] = -1
  | [], _ => by simp [Lib.index]
  | x :: a, h => by
    have hx : x ≠ 35 := fun e => h (by simp [e])
    have ih := index_miss35 a (fun e => h (by simp [e]))
    simp only [Lib.index]
    rw [ih]
    rw [if_neg (by simp; exact fun e => hx e.symm)]
    simp
theorem cut_hit35 (a b : List UInt8) (h : 35 ∉ a) (hl : (a ++ 35 :: b).length < 4294967281) : strings_Cut.f ⟨(a ++ 35 :: b).toArray⟩ ⟨#[35]⟩ = some (⟨a.toArray⟩, ⟨b.toArray⟩, true) := by
  unfold strings_Cut.f
  rw [size_mk, if_pos hl]
  have : Lib.cut (a ++ 35 :: b) [35] = (a, b, true) := by
    unfold Lib.cut
    rw [index_hit35 a b h, if_pos (by omega)]
    simp
  change some ((⟨(Lib.cut (a ++ 35 :: b) [35]).1.toArray⟩ : ByteArray), (⟨(Lib.cut (a ++ 35 :: b) [35]).2.1.toArray⟩ : ByteArray), (Lib.cut (a ++ 35 :: b) [35]).2.2) = _
  rw [this]
theorem cut_miss35 (a : List UInt8) (h : 35 ∉ a) (hl : a.length < 4294967281) : ∃ x : ByteArray × ByteArray, strings_Cut.f ⟨a.toArray⟩ ⟨#[35]⟩ = some (x.1, x.2, false) := by
  unfold strings_Cut.f
  rw [size_mk, if_pos hl]
  have : Lib.cut a [35] = (a, [], false) := by
    unfold Lib.cut
    rw [index_miss35 a h, if_neg (by omega)]
  change ∃ x : ByteArray × ByteArray, some ((⟨(Lib.cut a [35]).1.toArray⟩ : ByteArray), (⟨(Lib.cut a [35]).2.1.toArray⟩ : ByteArray), (Lib.cut a [35]).2.2) = _
  rw [this]
  exact ⟨(_, _), rfl⟩
theorem suffix_ms (b : List UInt8) (hl : b.length < 1000) : (∃ c, b = c ++ [109, 115] ∧ strings_CutSuffix.f ⟨b.toArray⟩ ⟨#[109, 115]⟩ = some (⟨c.toArray⟩, true)) ∨ (strings_CutSuffix.f ⟨b.toArray⟩ ⟨#[109, 115]⟩ = some (⟨b.toArray⟩, false) ∧ ∀ c, b ≠ c ++ [109, 115]) := by
  have hsz : ((⟨#[109, 115]⟩ : ByteArray).size : Int) = 2 := rfl
  by_cases h : 2 ≤ b.length
  · have hw : wrap64 ((b.length : Int) - 2) = ((b.length - 2 : Nat) : Int) := by rw [w64 _ (by omega) (by omega)]; omega
    have hx : (⟨b.toArray⟩ : ByteArray).extract (b.length - 2) b.length = ⟨(b.drop (b.length - 2)).toArray⟩ := by
      rw [extract_mk]; congr 2; rw [List.take_of_length_le]; simp
    have hP : stringslite_HasSuffix.f ⟨b.toArray⟩ ⟨#[109, 115]⟩ = some (b.drop (b.length - 2) == [109, 115]) := by
      unfold stringslite_HasSuffix.f
      rw [size_mk, hsz, if_pos (by omega), hw, if_pos (by omega), if_pos (by omega)]
      rw [show (((b.length - 2 : Nat) : Int)).toNat = b.length - 2 by omega, hx, toList_mk, show (⟨#[109, 115]⟩ : ByteArray).toList = [109, 115] from toList_mk [109, 115]]
    by_cases hq : b.drop (b.length - 2) = [109, 115]
    · refine .inl ⟨b.take (b.length - 2), ?_, ?_⟩
      · rw [← hq, List.take_append_drop]
      · unfold strings_CutSuffix.f stringslite_CutSuffix.f
        rw [hP, hq]
        simp only [Option.bind_some, beq_self_eq_true, if_true]
        rw [size_mk, hsz, hw, if_pos (by omega), if_pos (by omega), show (((b.length - 2 : Nat) : Int)).toNat = b.length - 2 by omega, extract_mk]
        simp
    · refine .inr ⟨?_, fun c hc => hq (by rw [hc]; simp)⟩
      unfold strings_CutSuffix.f stringslite_CutSuffix.f
      rw [hP, show (b.drop (b.length - 2) == [109, 115]) = false by simpa using hq]
      simp
  · refine .inr ⟨?_, fun c hc => h (by rw [hc]; simp)⟩
    have hP : stringslite_HasSuffix.f ⟨b.toArray⟩ ⟨#[109, 115]⟩ = some false := by
      unfold stringslite_HasSuffix.f
      rw [size_mk, hsz, if_neg (by omega)]
    unfold strings_CutSuffix.f stringslite_CutSuffix.f
    rw [hP]
    simp
/-- What a reader of literals tells. -/
def ToldV (l : List UInt8) (r : Int × Int × Bool) : Prop := r = (0, 0, false) ∨ ∃ t v, (Lit.int .i64 v).wf = true ∧ inS t v = true ∧ r = (t, v, true) ∧ litL t v = l
theorem kindFd_cases (a : ByteArray) : kindFd a = 0 ∨ (1 ≤ kindFd a ∧ kindFd a ≤ 6 ∧ a = kindNm (kindFd a)) := by
  unfold kindFd
  by_cases h1 : a = kindNm 1
  · rw [if_pos h1]; exact .inr ⟨by omega, by omega, h1⟩
  · rw [if_neg h1]
    by_cases h2 : a = kindNm 2
    · rw [if_pos h2]; exact .inr ⟨by omega, by omega, h2⟩
    · rw [if_neg h2]
      by_cases h3 : a = kindNm 3
      · rw [if_pos h3]; exact .inr ⟨by omega, by omega, h3⟩
      · rw [if_neg h3]
        by_cases h4 : a = kindNm 4
        · rw [if_pos h4]; exact .inr ⟨by omega, by omega, h4⟩
        · rw [if_neg h4]
          by_cases h5 : a = kindNm 5
          · rw [if_pos h5]; exact .inr ⟨by omega, by omega, h5⟩
          · rw [if_neg h5]
            by_cases h6 : a = kindNm 6
            · rw [if_pos h6]; exact .inr ⟨by omega, by omega, h6⟩
            · rw [if_neg h6]; exact .inl rfl
theorem j0_false (k : Nat) (t : Int) (x : List UInt8) (hk : 41 ≤ k) : num_Value.j0 k t ⟨x.toArray⟩ false = some (0, 0, false) := by
  obtain ⟨k, rfl⟩ : ∃ m, k = m + 1 := ⟨k - 1, by omega⟩
  obtain ⟨r, hr, _, _⟩ := nparse_told ⟨x.toArray⟩ k (by omega)
  simp only [num_Value.j0]
  rw [hr]
  simp
theorem wf_zero : (Lit.int .i64 0).wf = true := by decide
/-- Behind the name: nothing, or the int of the text in the type's range. -/
theorem j0_true (k : Nat) (t : Int) (x : List UInt8) (hk : 41 ≤ k) : ∃ r, num_Value.j0 k t ⟨x.toArray⟩ true = some r ∧ (r = (0, 0, false) ∨ ∃ v, (Lit.int .i64 v).wf = true ∧ inS t v = true ∧ r = (t, v, true) ∧ printL v = x) ∧ ∀ v, (Lit.int .i64 v).wf = true → inS t v = true → printL v = x → r = (t, v, true) := by
  obtain ⟨k, rfl⟩ : ∃ m, k = m + 1 := ⟨k - 1, by omega⟩
  obtain ⟨r, hr, h1, h2⟩ := nparse_told ⟨x.toArray⟩ k (by omega)
  simp only [num_Value.j0]
  rw [hr]
  simp only [Option.bind_some, if_true]
  rcases h1 with rfl | ⟨n, hn, rfl, hp⟩
  · refine ⟨(0, 0, false), by simp, .inl rfl, fun v hw _ hv => ?_⟩
    have := h2 v hw (by rw [← hv]; rfl)
    cases this
  · simp only [if_true]
    rw [kind_In_eq t n hn]
    simp only [Option.bind_some]
    have hp' : printL n = x := by
      have := congrArg ByteArray.data hp
      simpa [printS] using this
    by_cases hi : inS t n = true
    · rw [if_pos hi]
      refine ⟨_, rfl, .inr ⟨n, hn, hi, rfl, hp'⟩, fun v hw hvi hv => ?_⟩
      have := h2 v hw (by rw [← hv]; rfl)
      simp only [Prod.mk.injEq, and_true] at this
      rw [this]
    · rw [if_neg hi]
      refine ⟨_, rfl, .inl rfl, fun v hw hvi hv => ?_⟩
      have := h2 v hw (by rw [← hv]; rfl)
      simp only [Prod.mk.injEq, and_true] at this
      rw [this] at hi
      exact absurd hvi hi
theorem litL_mid (t v : Int) (h : inS t v = true) (h1 : t ≠ 1) (h6 : t ≠ 6) : litL t v = (kindNm t).data.toList ++ 35 :: printL v := by
  unfold litL
  rw [if_pos h, if_neg h1, if_neg h6]
  simp
theorem litL_time (v : Int) : litL 6 v = [84] ++ 35 :: (printL v ++ [109, 115]) := by
  simp [litL, inS]
theorem nvalue_told (l : List UInt8) (hl : l.length < 1000) (k : Nat) (hk : 41 ≤ k) : ∃ r, num_Value.f k ⟨l.toArray⟩ = some r ∧ ToldV l r := by
  unfold num_Value.f
  rw [toList_mk]
  by_cases hT : l = [84, 82, 85, 69]
  · rw [if_pos hT]
    exact ⟨_, rfl, .inr ⟨1, 1, by decide, by decide, rfl, by rw [hT]; decide⟩⟩
  rw [if_neg hT]
  by_cases hF : l = [70, 65, 76, 83, 69]
  · rw [if_pos hF]
    exact ⟨_, rfl, .inr ⟨1, 0, by decide, by decide, rfl, by rw [hF]; decide⟩⟩
  rw [if_neg hF]
  by_cases hm : (35 : UInt8) ∈ l
  · obtain ⟨a, b, rfl, ha⟩ := List.eq_append_cons_of_mem hm
    rw [cut_hit35 a b ha (by omega)]
    simp only [Option.bind_some, if_true]
    rw [show kind_Find.f ⟨a.toArray⟩ = some (kindFd ⟨a.toArray⟩) from rfl]
    simp only [Option.bind_some]
    rw [toList_mk]
    have hbl : b.length < 1000 := by simp at hl; omega
    by_cases h84 : a = [84]
    · rw [if_pos h84]
      rcases suffix_ms b hbl with ⟨c, rfl, hc⟩ | ⟨hc, _⟩
      · rw [hc]
        simp only [Option.bind_some]
        obtain ⟨r, hr, h1, _⟩ := j0_true k 6 c hk
        refine ⟨r, hr, ?_⟩
        rcases h1 with rfl | ⟨v, hw, hi, rfl, hv⟩
        · exact .inl rfl
        · exact .inr ⟨6, v, hw, hi, rfl, by rw [litL_time, hv, h84]⟩
      · rw [hc]
        simp only [Option.bind_some]
        rw [j0_false k 6 b hk]
        exact ⟨_, rfl, .inl rfl⟩
    · rw [if_neg h84]
      by_cases h1 : kindFd ⟨a.toArray⟩ = 1
      · rw [if_pos h1, j0_false k _ b hk]
        exact ⟨_, rfl, .inl rfl⟩
      rw [if_neg h1]
      by_cases h6 : kindFd ⟨a.toArray⟩ = 6
      · rw [if_pos h6, j0_false k _ b hk]
        exact ⟨_, rfl, .inl rfl⟩
      rw [if_neg h6]
      obtain ⟨r, hr, h2, _⟩ := j0_true k (kindFd ⟨a.toArray⟩) b hk
      refine ⟨r, hr, ?_⟩
      rcases h2 with rfl | ⟨v, hw, hi, rfl, hv⟩
      · exact .inl rfl
      · refine .inr ⟨_, v, hw, hi, rfl, ?_⟩
        rw [litL_mid _ v hi h1 h6, hv]
        rcases kindFd_cases ⟨a.toArray⟩ with h0 | ⟨_, _, hn⟩
        · rw [h0] at hi; cases hi
        · rw [← hn]
  · obtain ⟨x, hx⟩ := cut_miss35 l hm (by omega)
    rw [hx]
    simp only [Option.bind_some, Bool.false_eq_true, if_false]
    exact ⟨_, rfl, .inl rfl⟩
theorem litL_ne (t v : Int) (h : inS t v = true) : litL t v ≠ [] := by
  by_cases h1 : t = 1
  · subst h1
    unfold litL
    rw [if_pos h, if_pos rfl]
    split <;> simp
  · by_cases h6 : t = 6
    · subst h6; rw [litL_time]; simp
    · rw [litL_mid t v h h1 h6]; simp
/-- Each literal is read back. -/
theorem nvalue_back (t v : Int) (hw : (Lit.int .i64 v).wf = true) (hi : inS t v = true) (k : Nat) (hk : 41 ≤ k) : num_Value.f k ⟨(litL t v).toArray⟩ = some (t, v, true) := by
  have hr := right_in t v hi
  have hpl := printL_len v hw
  unfold num_Value.f
  rw [toList_mk]
  by_cases h1 : t = 1
  · subst h1
    have : v = 0 ∨ v = 1 := by simp [inS] at hi; omega
    rcases this with rfl | rfl
    · rw [if_neg (by decide), if_pos (by decide)]
    · rw [if_pos (by decide)]
  by_cases h6 : t = 6
  · subst h6
    rw [litL_time, if_neg (by simp), if_neg (by simp), cut_hit35 [84] _ (by decide) (by simp; omega)]
    simp only [Option.bind_some, if_true]
    rw [show kind_Find.f ⟨[84].toArray⟩ = some (kindFd ⟨[84].toArray⟩) from rfl]
    simp only [Option.bind_some]
    rw [toList_mk, if_pos rfl]
    rcases suffix_ms (printL v ++ [109, 115]) (by simp; omega) with ⟨c, hc, hc2⟩ | ⟨_, hc⟩
    · have : printL v = c := List.append_cancel_right hc
      rw [hc2]
      simp only [Option.bind_some]
      obtain ⟨r, hr, _, h2⟩ := j0_true k 6 c hk
      rw [hr, h2 v hw hi this]
    · exfalso
      exact hc _ rfl
  · rw [litL_mid t v hi h1 h6]
    have h2345 : t = 2 ∨ t = 3 ∨ t = 4 ∨ t = 5 := by omega
    have hmain : ∀ a : List UInt8, (kindNm t).data.toList = a → 35 ∉ a → a.length ≤ 5 → a ≠ [84] → kindFd ⟨a.toArray⟩ = t → (a ++ 35 :: printL v ≠ [84, 82, 85, 69]) → (a ++ 35 :: printL v ≠ [70, 65, 76, 83, 69]) →
        (if (a ++ 35 :: printL v) = ([84, 82, 85, 69] : List UInt8) then (some (1, 1, true)) else (if (a ++ 35 :: printL v) = ([70, 65, 76, 83, 69] : List UInt8) then (some (1, 0, true)) else ((strings_Cut.f ⟨(a ++ 35 :: printL v).toArray⟩ (⟨#[35]⟩ : ByteArray)).bind fun bt117 => (if bt117.2.2 = true then ((kind_Find.f bt117.1).bind fun t120 => (if bt117.1.toList = ([84] : List UInt8) then ((strings_CutSuffix.f bt117.2.1 (⟨#[109, 115]⟩ : ByteArray)).bind fun bt121 => (num_Value.j0 k 6 bt121.1 bt121.2)) else (if t120 = 1 then (num_Value.j0 k t120 bt117.2.1 false) else (if t120 = 6 then (num_Value.j0 k t120 bt117.2.1 false) else (num_Value.j0 k t120 bt117.2.1 bt117.2.2))))) else (some (0, 0, false)))))) = some (t, v, true) := by
      intro a _ ha hl h84 hf hT hF
      rw [if_neg hT, if_neg hF, cut_hit35 a _ ha (by simp; omega)]
      simp only [Option.bind_some, if_true]
      rw [show kind_Find.f ⟨a.toArray⟩ = some (kindFd ⟨a.toArray⟩) from rfl, hf]
      simp only [Option.bind_some]
      rw [toList_mk, if_neg h84, if_neg h1, if_neg h6]
      obtain ⟨r, hr, _, h2⟩ := j0_true k t (printL v) hk
      rw [hr, h2 v hw hi rfl]
    have h35 : ∀ a b : List UInt8, 35 ∉ b → a ++ 35 :: printL v ≠ b := by
      rintro a b hb rfl
      exact hb (by simp)
    rcases h2345 with rfl | rfl | rfl | rfl
    all_goals exact hmain _ rfl (by decide) (by decide) (by decide) (by decide) (h35 _ _ (by decide)) (h35 _ _ (by decide))
end Go.Proofs.YticmkjkngngdhaaDoor.PNumBack
