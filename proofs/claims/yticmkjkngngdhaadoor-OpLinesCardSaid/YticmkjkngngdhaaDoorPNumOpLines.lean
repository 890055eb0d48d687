/- num.Print, num.Parse and the reference's: plain, over the printed functions. No condition. -/
import Derived.Test.YticmkjkngngdhaaDoorQOpLinesx
import Derived.Test.YticmkjkngngdhaaDoorDigits
namespace Go.Proofs.YticmkjkngngdhaaDoor.POpLines
open Go.Proofs.YticmkjkngngdhaaDoor Go.Proofs.YticmkjkngngdhaaDoor.QOpLines Go.RowKit Go.Proofs.YticmkjkngngdhaaDoorW.PrintWords Go.Proofs.YticmkjkngngdhaaDoorW.PrintLast
set_option linter.unusedSimpArgs false
theorem w64 (z : Int) (h : -9223372036854775808 ≤ z) (h' : z ≤ 9223372036854775807) : wrap64 z = z := by unfold wrap64; omega
theorem wu64 (z : Int) (h : 0 ≤ z) (h' : z < 18446744073709551616) : IntKind.u64.wrap z = z := by
  simp only [IntKind.wrap, IntKind.signed, Bool.false_and, Bool.false_eq_true, if_false, IntKind.bits]
  omega
theorem ext1 (m : Nat) (h : m < 10) : (⟨#[48, 49, 50, 51, 52, 53, 54, 55, 56, 57]⟩ : ByteArray).extract m (m + 1) = ⟨#[UInt8.ofNat (48 + m)]⟩ := by
  have : m = 0 ∨ m = 1 ∨ m = 2 ∨ m = 3 ∨ m = 4 ∨ m = 5 ∨ m = 6 ∨ m = 7 ∨ m = 8 ∨ m = 9 := by omega
  rcases this with rfl | rfl | rfl | rfl | rfl | rfl | rfl | rfl | rfl | rfl <;> rfl
theorem app_mk (d : UInt8) (ds : List UInt8) : (⟨#[d]⟩ : ByteArray) ++ ⟨ds.toArray⟩ = ⟨(d :: ds).toArray⟩ := by
  apply ByteArray.ext
  simp
theorem size_mk (l : List UInt8) : (⟨l.toArray⟩ : ByteArray).size = l.length := by simp [ByteArray.size]
theorem tmod10 (v : Nat) : wrap64 (Int.tmod (v : Int) 10) = ((v % 10 : Nat) : Int) := by
  rw [Int.tmod_eq_emod_of_nonneg (by omega), w64 _ (by omega) (by omega)]
  omega
theorem tdiv10 (v : Nat) (h : v < 18446744073709551616) : IntKind.u64.wrap (Int.tdiv (v : Int) 10) = ((v / 10 : Nat) : Int) := by
  rw [Int.tdiv_eq_ediv_of_nonneg (by omega), wu64 _ (by omega) (by omega)]
  omega
theorem rdigits : ∀ (f v k : Nat) (ds : List UInt8), v < 10 ^ (f + 1) → v < 18446744073709551616 → f < k → ds.length + f ≤ 100 →
    ladderbackref04_Digits.l0 k (v : Int) ⟨ds.toArray⟩ = some ⟨(dgs (f + 1) v ds).toArray⟩ := by
  intro f
  induction f with
  | zero =>
    intro v k ds hv hv2 hk hl
    obtain ⟨k, rfl⟩ : ∃ m, k = m + 1 := ⟨k - 1, by omega⟩
    simp only [ladderbackref04_Digits.l0]
    have e1 : ((v : Int) : Int).toNat = v := by omega
    have e2 : ((v : Int) + 1).toNat = v + 1 := by omega
    rw [if_neg (by omega), w64 (v : Int) (by omega) (by omega), w64 ((v : Int) + 1) (by omega) (by omega), if_pos (by omega), if_pos (by omega), if_pos (by omega), e1, e2, ext1 v (by omega), size_mk]
    rw [if_pos (by simp [ByteArray.size]; omega), app_mk]
    simp only [dgs]
    rw [if_pos (by omega)]
    unfold dg
    rw [Nat.mod_eq_of_lt (by omega)]
  | succ f ih =>
    intro v k ds hv hv2 hk hl
    obtain ⟨k, rfl⟩ : ∃ m, k = m + 1 := ⟨k - 1, by omega⟩
    simp only [ladderbackref04_Digits.l0]
    by_cases h10 : v < 10
    · have e1 : ((v : Int) : Int).toNat = v := by omega
      have e2 : ((v : Int) + 1).toNat = v + 1 := by omega
      rw [if_neg (by omega), w64 (v : Int) (by omega) (by omega), w64 ((v : Int) + 1) (by omega) (by omega), if_pos (by omega), if_pos (by omega), if_pos (by omega), e1, e2, ext1 v (by omega), size_mk]
      rw [if_pos (by simp [ByteArray.size]; omega), app_mk]
      rw [dgs, if_pos (by omega)]
      unfold dg
      rw [Nat.mod_eq_of_lt (by omega)]
    · have e1 : (((v % 10 : Nat) : Int)).toNat = v % 10 := by omega
      have e2 : (((v % 10 : Nat) : Int) + 1).toNat = v % 10 + 1 := by omega
      rw [if_pos (by omega), tmod10, tdiv10 v hv2, w64 (((v % 10 : Nat) : Int) + 1) (by omega) (by omega), if_pos (by omega), if_pos (by omega), if_pos (by omega), e1, e2, ext1 (v % 10) (by omega), size_mk]
      rw [if_pos (by simp [ByteArray.size]; omega), app_mk]
      rw [ih (v / 10) k _ (by rw [Nat.pow_succ] at hv; omega) (by omega) (by omega) (by simp; omega)]
      rw [dgs.eq_def (f + 1 + 1)]
      simp only
      rw [if_neg (by omega)]
      rfl
/-- The reference's Print. -/
theorem rprint (n : Int) (hw : (Lit.int .i64 n).wf = true) (k : Nat) (hk : 20 ≤ k) : ladderbackref04_Print.f k n = some (printS n) := by
  have hb := bounds_i64 hw
  have h20 : n.natAbs < 10 ^ (19 + 1) := by have := small_pos; have : (10 : Nat) ^ (19 + 1) = 100000000000000000000 := by decide
                                            omega
  unfold ladderbackref04_Print.f ladderbackref04_Digits.f
  by_cases hn : 0 ≤ n
  · rw [if_pos hn, wu64 n hn (by omega)]
    have := rdigits 19 n.natAbs k [] h20 (by omega) (by omega) (by simp)
    rw [show ((n.natAbs : Nat) : Int) = n by omega] at this
    rw [this]
    simp [printS, printL, show ¬ n < 0 by omega]
  · rw [if_neg hn, u64_neg n (by omega) hb.1]
    have := rdigits 19 n.natAbs k [] h20 (by omega) (by omega) (by simp)
    rw [show ((n.natAbs : Nat) : Int) = -n by omega] at this
    have hl : (dgs (19 + 1) n.natAbs []).length ≤ 20 := dgs_length 20 n.natAbs 19 h20
    rw [this]
    simp only [Option.bind_some]
    rw [size_mk, if_pos (by omega), app_mk]
    simp [printS, printL, show n < 0 by omega]

theorem bt_mk (l : List UInt8) (j : Nat) (h : j < l.length) : bt ⟨l.toArray⟩ (j : Int) = ((l[j]'h).toNat : Int) := by
  have : ((j : Int)).toNat = j := by omega
  simp only [bt, this]
  rw [dif_pos (by rw [size_mk]; exact h)]
  rfl
theorem toList_mk (l : List UInt8) : (⟨l.toArray⟩ : ByteArray).toList = l := by rw [ByteArray.toList_eq]
theorem mk_eq (s : ByteArray) : s = ⟨s.data.toList.toArray⟩ := by simp
/-- Digits from a number on. -/
def valF (v : Nat) (l : List UInt8) : Nat := l.foldl (fun v d => 10 * v + (d.toNat - 48)) v
theorem valF_le (l : List UInt8) : ∀ v, v ≤ valF v l := by
  induction l with
  | nil => intro v; exact Nat.le_refl _
  | cons d l ih => intro v; have := ih (10 * v + (d.toNat - 48)); simp only [valF, List.foldl_cons] at this ⊢; omega
/-- What a reader tells: nothing, or the int whose text it is. -/
def Told (s : ByteArray) (r : Int × Bool) : Prop := r = (0, false) ∨ ∃ n, (Lit.int .i64 n).wf = true ∧ r = (n, true) ∧ printS n = s
theorem wf_wrap64 (z : Int) : (Lit.int .i64 (wrap64 z)).wf = true := by
  simp only [Lit.wf, IntKind.min, IntKind.max, IntKind.signed, IntKind.bits, Bool.and_eq_true, decide_eq_true_eq]
  unfold wrap64
  simp only [if_true]
  omega
theorem rlast (s : ByteArray) (n : Int) (hn : (Lit.int .i64 n).wf = true) (k : Nat) (hk : 20 ≤ k) :
    ∃ r, ((ladderbackref04_Print.f k n).bind fun t => (if t.toList = s.toList then (some (n, true)) else (some (0, false)))) = some r ∧ Told s r := by
  rw [rprint n hn k hk]
  simp only [Option.bind_some]
  by_cases h : (printS n).toList = s.toList
  · rw [if_pos h]
    refine ⟨_, rfl, .inr ⟨n, hn, rfl, ?_⟩⟩
    rw [ByteArray.toList_eq, ByteArray.toList_eq] at h
    exact ByteArray.ext (Array.toList_inj.1 h)
  · rw [if_neg h]
    exact ⟨_, rfl, .inl rfl⟩
theorem rparse_some (l : List UInt8) (hl : l.length ≤ 1000) : ∀ (d i k : Nat) (v : Int) (m : Bool), l.length - i = d → i ≤ l.length → 3 * d + 30 ≤ k →
    ∃ r, ladderbackref04_Parse.l0 k ⟨l.toArray⟩ v m (i : Int) = some r ∧ Told ⟨l.toArray⟩ r := by
  intro d
  induction d with
  | zero =>
    intro i k v m hd hi hk
    obtain ⟨k, rfl⟩ : ∃ m, k = m + 2 := ⟨k - 2, by omega⟩
    simp only [ladderbackref04_Parse.l0, ladderbackref04_Parse.j1]
    rw [size_mk, if_neg (by omega)]
    simp only [Bool.false_eq_true, if_false]
    cases m
    · simp only [Bool.false_eq_true, if_false]; exact rlast _ _ (wf_wrap64 _) k (by omega)
    · simp only [if_true]; exact rlast _ _ (wf_wrap64 _) k (by omega)
  | succ d ih =>
    intro i k v m hd hi hk
    obtain ⟨k, rfl⟩ : ∃ m, k = m + 3 := ⟨k - 3, by omega⟩
    have hlt : i < l.length := by omega
    have hw : wrap64 ((i : Int) + 1) = ((i + 1 : Nat) : Int) := by rw [w64 _ (by omega) (by omega)]; omega
    simp only [ladderbackref04_Parse.l0, ladderbackref04_Parse.j1]
    rw [size_mk, if_pos (by omega)]
    by_cases h20 : i < 20
    · rw [show decide ((i : Int) < 20) = true by simp; omega]
      simp only [if_true]
      have step : ∀ b : Bool, ∃ r, ladderbackref04_Parse.j2 (k + 1) ⟨l.toArray⟩ v m (i : Int) b = some r ∧ Told ⟨l.toArray⟩ r := by
        intro b
        simp only [ladderbackref04_Parse.j2]
        rw [hw, size_mk]
        cases b
        · simp only [Bool.false_eq_true, if_false]
          rw [if_pos (by omega), if_pos (by omega)]
          split
          · exact ⟨_, rfl, .inl rfl⟩
          · split
            · exact ⟨_, rfl, .inl rfl⟩
            · exact ih (i + 1) k _ m (by omega) (by omega) (by omega)
        · simp only [if_true]
          exact ih (i + 1) k _ true (by omega) (by omega) (by omega)
      split
      · rw [if_pos (by omega), if_pos (by omega)]
        exact step _
      · exact step _
    · rw [show decide ((i : Int) < 20) = false by simp; omega]
      simp only [Bool.false_eq_true, if_false]
      cases m
      · simp only [Bool.false_eq_true, if_false]; exact rlast _ _ (wf_wrap64 _) (k + 1) (by omega)
      · simp only [if_true]; exact rlast _ _ (wf_wrap64 _) (k + 1) (by omega)

/-- Over digits the reference adds up. -/
theorem rparse_run (l : List UInt8) (hl : l.length ≤ 20) : ∀ (q p : List UInt8) (k : Nat) (v : Nat) (m : Bool), l = p ++ q → (∀ d ∈ q, Dig d) → valF v q < 18446744073709551616 → 3 * q.length + 30 ≤ k →
    ladderbackref04_Parse.l0 k ⟨l.toArray⟩ (v : Int) m (p.length : Int) =
      if m = true then ((ladderbackref04_Print.f (k - 3 * q.length - 2) (wrap64 (IntKind.u64.wrap (-((valF v q : Nat) : Int))))).bind fun t => (if t.toList = (⟨l.toArray⟩ : ByteArray).toList then (some (wrap64 (IntKind.u64.wrap (-((valF v q : Nat) : Int))), true)) else (some (0, false))))
      else ((ladderbackref04_Print.f (k - 3 * q.length - 2) (wrap64 ((valF v q : Nat) : Int))).bind fun t => (if t.toList = (⟨l.toArray⟩ : ByteArray).toList then (some (wrap64 ((valF v q : Nat) : Int), true)) else (some (0, false)))) := by
  intro q
  induction q with
  | nil =>
    intro p k v m hp hd hv hk
    obtain ⟨k, rfl⟩ : ∃ m, k = m + 2 := ⟨k - 2, by omega⟩
    have hpl : p.length = l.length := by rw [hp]; simp
    simp only [ladderbackref04_Parse.l0, ladderbackref04_Parse.j1]
    rw [size_mk, if_neg (by omega)]
    simp only [Bool.false_eq_true, if_false, List.length_nil, Nat.mul_zero, Nat.sub_zero, Nat.add_sub_cancel, valF, List.foldl_nil]
  | cons d q ih =>
    intro p k v m hp hd hv hk
    obtain ⟨k, rfl⟩ : ∃ m, k = m + 3 := ⟨k - 3, by simp at hk; omega⟩
    have hlen : l.length = p.length + (q.length + 1) := by rw [hp]; simp
    have hlt : p.length < l.length := by omega
    have hget : l[p.length]'hlt = d := by simp [hp]
    have hdd := hd d (by simp)
    have hw : wrap64 ((p.length : Int) + 1) = (((p ++ [d]).length : Nat) : Int) := by rw [w64 _ (by omega) (by omega)]; simp
    have hnext : valF v (d :: q) = valF (10 * v + (d.toNat - 48)) q := rfl
    have hle := valF_le q (10 * v + (d.toNat - 48))
    rw [hnext] at hv
    unfold Dig at hdd
    have hx : IntKind.u64.wrap ((IntKind.u64.wrap ((IntKind.u64.wrap (10 * (v : Int))) + (IntKind.u64.wrap (d.toNat : Int)))) - 48) = ((10 * v + (d.toNat - 48) : Nat) : Int) := by
      rw [wu64 (10 * (v : Int)) (by omega) (by omega), wu64 (d.toNat : Int) (by omega) (by omega)]
      simp only [IntKind.wrap, IntKind.signed, Bool.false_and, Bool.false_eq_true, if_false, IntKind.bits]
      omega
    have key : ∀ b : Bool, b = false → ladderbackref04_Parse.j2 (k + 1) ⟨l.toArray⟩ (v : Int) m (p.length : Int) b = ladderbackref04_Parse.l0 k ⟨l.toArray⟩ ((10 * v + (d.toNat - 48) : Nat) : Int) m (((p ++ [d]).length : Nat) : Int) := by
      intro b hb
      subst hb
      simp only [ladderbackref04_Parse.j2]
      rw [hw, size_mk]
      simp only [Bool.false_eq_true, if_false]
      rw [if_pos (by omega), if_pos (by omega), bt_mk l p.length hlt, hget, if_neg (by omega), if_neg (by omega), hx]
    have h45 : (bt ⟨l.toArray⟩ (p.length : Int) == 45) = false := by
      rw [bt_mk l p.length hlt, hget]
      simp; omega
    have goal := ih (p ++ [d]) k (10 * v + (d.toNat - 48)) m (by rw [hp]; simp) (fun x hx => hd x (by simp [hx])) hv (by simp at hk; omega)
    simp only [ladderbackref04_Parse.l0, ladderbackref04_Parse.j1]
    rw [size_mk, if_pos (by omega), show decide (((p.length : Nat) : Int) < 20) = true by simp; omega]
    simp only [if_true]
    have e : k + 3 - 3 * (d :: q).length - 2 = k - 3 * q.length - 2 := by simp; omega
    rw [e, hnext, ← goal]
    split
    · rw [if_pos (by omega), if_pos (by omega)]
      exact key _ h45
    · exact key _ rfl
theorem valF_zero (l : List UInt8) : valF 0 l = val l := rfl
/-- What the printer writes the reference reads. -/
theorem rparse_back (n : Int) (hw : (Lit.int .i64 n).wf = true) (k : Nat) (hk : 100 ≤ k) : ladderbackref04_Parse.f k (printS n) = some (n, true) := by
  have hb := bounds_i64 hw
  have h20 : n.natAbs < 10 ^ (19 + 1) := by
    have : (10 : Nat) ^ (19 + 1) = 100000000000000000000 := by decide
    omega
  have h19 : n.natAbs < 10 ^ (18 + 1) := by
    have : (10 : Nat) ^ (18 + 1) = 10000000000000000000 := by decide
    omega
  have hlen : (dgs 20 n.natAbs []).length ≤ 19 := dgs_length 20 n.natAbs 18 h19
  have hval : val (dgs 20 n.natAbs []) = n.natAbs := dgs_val 20 n.natAbs h20
  have hdig := dgs_digits 20 n.natAbs
  unfold ladderbackref04_Parse.f
  by_cases hn : 0 ≤ n
  · have hp : printS n = ⟨(dgs 20 n.natAbs []).toArray⟩ := by simp [printS, printL, show ¬ n < 0 by omega]
    have := rparse_run (dgs 20 n.natAbs []) (by omega) (dgs 20 n.natAbs []) [] k 0 false rfl hdig (by rw [valF_zero, hval]; omega) (by omega)
    rw [valF_zero, hval] at this
    simp only [Bool.false_eq_true, if_false, List.length_nil] at this
    rw [hp]
    have e : ((n.natAbs : Nat) : Int) = n := by omega
    rw [e, w64 n hb.1 hb.2, rprint n hw _ (by omega), hp] at this
    simpa using this
  · have hp : printS n = ⟨(45 :: dgs 20 n.natAbs []).toArray⟩ := by simp [printS, printL, show n < 0 by omega]
    have := rparse_run (45 :: dgs 20 n.natAbs []) (by simp; omega) (dgs 20 n.natAbs []) [45] (k - 3) 0 true rfl hdig (by rw [valF_zero, hval]; omega) (by omega)
    rw [valF_zero, hval] at this
    simp only [if_true] at this
    have e : wrap64 (IntKind.u64.wrap (-((n.natAbs : Nat) : Int))) = n := by
      simp only [IntKind.wrap, IntKind.signed, Bool.false_and, Bool.false_eq_true, if_false, IntKind.bits]
      unfold wrap64
      omega
    rw [e, rprint n hw _ (by omega), hp] at this
    simp only [Option.bind_some, if_true] at this
    rw [hp]
    obtain ⟨k, rfl⟩ : ∃ m, k = m + 3 := ⟨k - 3, by omega⟩
    simp only [ladderbackref04_Parse.l0, ladderbackref04_Parse.j1, ladderbackref04_Parse.j2]
    have hb0 : bt ⟨(45 :: dgs 20 n.natAbs []).toArray⟩ 0 = 45 := by
      have := bt_mk (45 :: dgs 20 n.natAbs []) 0 (by simp)
      simpa using this
    rw [size_mk, if_pos (by simp), hb0]
    simp only [show decide ((0 : Int) < 20) = true from rfl, if_true]
    rw [if_pos (by omega), if_pos (by simp)]
    simp only [show ((45 : Int) == 45) = true from rfl, if_true]
    rw [show wrap64 ((0 : Int) + 1) = 1 from by rw [w64 _ (by omega) (by omega)]; rfl]
    simpa using this

theorem extract_mk (l : List UInt8) (i j : Nat) : (⟨l.toArray⟩ : ByteArray).extract i j = ⟨((l.take j).drop i).toArray⟩ := by
  apply ByteArray.ext
  simp [List.extract, List.drop_take]
theorem cut45 (l : List UInt8) : strings_CutPrefix.f ⟨l.toArray⟩ ⟨#[45]⟩ = some (match l with | 45 :: d => (⟨d.toArray⟩, true) | _ => (⟨l.toArray⟩, false)) := by
  have h1 : (⟨#[45]⟩ : ByteArray).size = 1 := rfl
  have h2 : (⟨#[45]⟩ : ByteArray).toList = [45] := by rw [ByteArray.toList_eq]
  unfold strings_CutPrefix.f stringslite_CutPrefix.f stringslite_HasPrefix.f
  rw [h1, size_mk, h2]
  cases l with
  | nil => simp
  | cons x d =>
    have e1 : (((1 : Nat) : Int)).toNat = 1 := rfl
    rw [if_pos (by simp; omega), if_pos (by omega), if_pos (by simp; omega), e1, extract_mk, extract_mk, toList_mk]
    by_cases hx : x = 45
    · subst hx
      simp [show (1 : Int) ≤ (d.length : Int) + 1 by omega]
    · have : ([x] == [(45 : UInt8)]) = false := by simp [hx]
      simp only [List.take_succ_cons, List.take_zero, List.drop_zero, this, Option.bind_some, Bool.false_eq_true, if_false]
      split
      · rename_i d' heq
        simp at heq
        exact absurd heq.1 hx
      · rfl
def allD (l : List UInt8) : Bool := l.all fun d => decide (48 ≤ d.toNat) && decide (d.toNat ≤ 57)
theorem allD_iff (l : List UInt8) : allD l = true ↔ ∀ d ∈ l, Dig d := by simp [allD, Dig]
/-- How num.Parse ends. -/
def endS (m : Bool) (v : Nat) : Int × Bool := if m = true then (if v ≤ 9223372036854775808 then (-(v : Int), true) else (0, false)) else (if 9223372036854775808 ≤ v then (0, false) else ((v : Int), true))
theorem nparse_run (d : List UInt8) (hl : d.length ≤ 19) (m : Bool) : ∀ (q p : List UInt8) (k v : Nat), d = p ++ q → v < 10 ^ p.length → q.length + 10 ≤ k →
    num_Parse.l0 k ⟨d.toArray⟩ m (v : Int) (d.length : Int) (p.length : Int) = some (if allD q = true then endS m (valF v q) else (0, false)) := by
  have h19 : (10 : Nat) ^ 19 = 10000000000000000000 := by decide
  intro q
  induction q with
  | nil =>
    intro p k v hp hv hk
    obtain ⟨k, rfl⟩ : ∃ m, k = m + 2 := ⟨k - 2, by omega⟩
    have hpl : p.length = d.length := by rw [hp]; simp
    have hv2 : v < 10000000000000000000 := by
      have := Nat.pow_le_pow_right (show 0 < 10 by decide) (show p.length ≤ 19 by omega)
      omega
    simp only [num_Parse.l0, num_Parse.j2]
    rw [if_neg (by omega)]
    rw [show valF v [] = v from rfl, show allD [] = true from rfl]
    simp only [if_true]
    unfold endS
    cases m
    · simp only [Bool.false_eq_true, if_false]
      by_cases hb : 9223372036854775808 ≤ v
      · rw [if_pos (by omega), if_pos hb]
      · rw [if_neg (by omega), if_neg hb, w64 _ (by omega) (by omega)]
    · simp only [if_true]
      by_cases hb : v ≤ 9223372036854775808
      · rw [show decide ((v : Int) ≤ 9223372036854775808) = true by simp; omega, if_pos hb]
        simp only [if_true]
        have : wrap64 (IntKind.u64.wrap (-(v : Int))) = -(v : Int) := by
          simp only [IntKind.wrap, IntKind.signed, Bool.false_and, Bool.false_eq_true, if_false, IntKind.bits]
          unfold wrap64
          omega
        rw [this]
      · rw [show decide ((v : Int) ≤ 9223372036854775808) = false by simp; omega, if_neg hb]
        simp
  | cons x q ih =>
    intro p k v hp hv hk
    obtain ⟨k, rfl⟩ : ∃ m, k = m + 1 := ⟨k - 1, by omega⟩
    have hlen : d.length = p.length + (q.length + 1) := by rw [hp]; simp
    have hlt : p.length < d.length := by omega
    have hget : d[p.length]'hlt = x := by simp [hp]
    have hx := x.toNat_lt
    have hv2 : v < 1000000000000000000 := by
      have := Nat.pow_le_pow_right (show 0 < 10 by decide) (show p.length ≤ 18 by omega)
      have h18 : (10 : Nat) ^ 18 = 1000000000000000000 := by decide
      omega
    simp only [num_Parse.l0]
    rw [size_mk, if_pos (by omega), if_pos (by omega), if_pos (by omega), bt_mk d p.length hlt, hget]
    by_cases hd : 48 ≤ x.toNat ∧ x.toNat ≤ 57
    · rw [if_neg (by omega)]
      have e1 : IntKind.u64.wrap ((IntKind.u64.wrap (10 * (v : Int))) + (((x.toNat : Int) - 48) % 256)) = ((10 * v + (x.toNat - 48) : Nat) : Int) := by
        rw [wu64 (10 * (v : Int)) (by omega) (by omega), wu64 _ (by omega) (by omega)]
        omega
      have e2 : wrap64 ((p.length : Int) + 1) = (((p ++ [x]).length : Nat) : Int) := by rw [w64 _ (by omega) (by omega)]; simp
      rw [e1, e2, ih (p ++ [x]) k _ (by rw [hp]; simp) (by rw [List.length_append, List.length_singleton, Nat.pow_succ]; omega) (by simp at hk; omega)]
      have : allD (x :: q) = allD q := by simp [allD, hd]
      rw [this]
      rfl
    · rw [if_pos (by omega)]
      have : allD (x :: q) = false := by
        simp only [allD, List.all_cons, Bool.and_eq_false_imp]
        intro h
        simp at h
        omega
      rw [this]
      simp
open Classical in
/-- num.Parse, behind the sign. -/
noncomputable def bodyS (d : List UInt8) (m : Bool) : Int × Bool :=
  if d = [] ∨ 19 < d.length ∨ (∃ r, d = 48 :: r ∧ (m = true ∨ r ≠ [])) then (0, false) else if allD d = true then endS m (val d) else (0, false)
/-- What bars a text of digits. -/
def Bar (d : List UInt8) (m : Bool) : Prop := d = [] ∨ 19 < d.length ∨ (∃ r, d = 48 :: r ∧ (m = true ∨ r ≠ []))
theorem bodyS_bar {d : List UInt8} {m : Bool} (h : Bar d m) : bodyS d m = (0, false) := if_pos h
theorem bodyS_free {d : List UInt8} {m : Bool} (h : ¬ Bar d m) : bodyS d m = if allD d = true then endS m (val d) else (0, false) := if_neg h
theorem nparse_body (d : List UInt8) (m : Bool) (k : Nat) (hk : 40 ≤ k) :
    (if (⟨d.toArray⟩ : ByteArray).toList = ([] : List UInt8) then (num_Parse.j0 k ⟨d.toArray⟩ m true) else (if ((⟨d.toArray⟩ : ByteArray).size : Int) > 19 then (num_Parse.j0 k ⟨d.toArray⟩ m true) else (if 0 < ((⟨d.toArray⟩ : ByteArray).size : Int) then (if (bt ⟨d.toArray⟩ 0) = 48 then (if m = true then (num_Parse.j0 k ⟨d.toArray⟩ m true) else (num_Parse.j0 k ⟨d.toArray⟩ m (decide (((⟨d.toArray⟩ : ByteArray).size : Int) > 1)))) else (num_Parse.j0 k ⟨d.toArray⟩ m false)) else (none)))) = some (bodyS d m) := by
  obtain ⟨k, rfl⟩ : ∃ j, k = j + 1 := ⟨k - 1, by omega⟩
  have jt : num_Parse.j0 (k + 1) ⟨d.toArray⟩ m true = some (0, false) := by simp [num_Parse.j0]
  rw [toList_mk, size_mk, jt]
  cases hd : d with
  | nil => simp [bodyS]
  | cons x r =>
    rw [← hd]
    have hne : d ≠ [] := by rw [hd]; simp
    rw [if_neg hne]
    by_cases h19 : 19 < d.length
    · rw [if_pos (by omega), bodyS_bar (.inr (.inl h19))]
    · rw [if_neg (by omega), if_pos (by rw [hd]; simp)]
      have hb0 : bt ⟨d.toArray⟩ 0 = (x.toNat : Int) := by
        have := bt_mk d 0 (by rw [hd]; simp)
        simp only [hd] at this ⊢
        simpa using this
      have jf : num_Parse.j0 (k + 1) ⟨d.toArray⟩ m false = some (if allD d = true then endS m (val d) else (0, false)) := by
        simp only [num_Parse.j0, Bool.false_eq_true, if_false]
        rw [size_mk]
        have := nparse_run d (by omega) m d [] k 0 rfl (by simp) (by omega)
        rw [valF_zero] at this
        simpa using this
      rw [hb0]
      have h48 : ((x.toNat : Int) = 48) ↔ x = 48 := by
        constructor
        · intro h; apply UInt8.toNat_inj.1; simp; omega
        · rintro rfl; rfl
      by_cases hx : x = 48
      · rw [if_pos (h48.2 hx)]
        cases m with
        | true =>
          simp only [if_true]
          rw [bodyS_bar (.inr (.inr ⟨r, by rw [hd, hx], .inl rfl⟩))]
        | false =>
          simp only [Bool.false_eq_true, if_false]
          by_cases hr : r = []
          · rw [show decide ((d.length : Int) > 1) = false by rw [hd, hr]; simp, jf, bodyS_free]
            rintro (h | h | ⟨r', h, h' | h'⟩)
            · exact hne h
            · exact h19 h
            · cases h'
            · rw [hd] at h; simp at h; exact h' (h.2 ▸ hr)
          · have : 0 < r.length := List.length_pos_iff.2 hr
            rw [show decide ((d.length : Int) > 1) = true by rw [hd]; simp; omega, jt, bodyS_bar (.inr (.inr ⟨r, by rw [hd, hx], .inr hr⟩))]
      · rw [if_neg (fun h => hx (h48.1 h)), jf]
        rw [bodyS_free]
        rintro (h | h | ⟨r', h, _⟩)
        · exact hne h
        · exact h19 h
        · rw [hd] at h; simp at h; exact hx h.1

theorem nparse (l : List UInt8) (k : Nat) (hk : 40 ≤ k) : num_Parse.f k ⟨l.toArray⟩ = some (match l with | 45 :: d => bodyS d true | _ => bodyS l false) := by
  unfold num_Parse.f
  rw [cut45]
  simp only [Option.bind_some]
  split
  · exact nparse_body _ true k hk
  · exact nparse_body l false k hk
theorem pow19 : (10 : Nat) ^ 19 = 10000000000000000000 := by decide
theorem printS_pos (v : Nat) : printS (v : Int) = ⟨(dgs 20 v []).toArray⟩ := by
  simp [printS, printL, show ¬ (v : Int) < 0 by omega]
theorem printS_neg (v : Nat) (h : 0 < v) : printS (-(v : Int)) = ⟨(45 :: dgs 20 v []).toArray⟩ := by
  simp only [printS, printL]
  rw [if_pos (by omega)]
  simp
theorem wf_of (n : Int) (h : -9223372036854775808 ≤ n) (h' : n ≤ 9223372036854775807) : (Lit.int .i64 n).wf = true := by
  simp only [Lit.wf, IntKind.min, IntKind.max, IntKind.signed, IntKind.bits, Bool.and_eq_true, decide_eq_true_eq]
  simp only [if_true]
  omega
theorem body_told (d : List UInt8) (m : Bool) : Told ⟨((if m = true then [45] else []) ++ d).toArray⟩ (bodyS d m) := by
  by_cases hc : Bar d m
  · rw [bodyS_bar hc]; exact .inl rfl
  · rw [bodyS_free hc]
    by_cases ha : allD d = true
    · rw [if_pos ha]
      have hdig := (allD_iff d).1 ha
      have hne : d ≠ [] := fun h => hc (.inl h)
      have h19 : d.length ≤ 19 := Nat.le_of_not_lt fun h => hc (.inr (.inl h))
      have h48 : ∀ x r, d = x :: r → x.toNat = 48 → m = false ∧ r = [] := by
        intro x r hd hx
        have hx' : x = 48 := by apply UInt8.toNat_inj.1; simpa using hx
        subst hx'
        constructor
        · cases m
          · rfl
          · exact absurd (.inr (.inr ⟨r, hd, .inl rfl⟩)) hc
        · by_cases hr : r = []
          · exact hr
          · exact absurd (.inr (.inr ⟨r, hd, .inr hr⟩)) hc
      have hof := dgs_of d hdig hne (fun x r hd hx => (h48 x r hd hx).2) 20 (by omega)
      have hlt := val_lt d hdig
      have hle := Nat.pow_le_pow_right (show 0 < 10 by decide) h19
      rw [pow19] at hle
      unfold endS
      cases m
      · simp only [Bool.false_eq_true, if_false, List.nil_append]
        split
        · exact .inl rfl
        · refine .inr ⟨_, wf_of _ (by omega) (by omega), rfl, ?_⟩
          rw [printS_pos, hof]
      · simp only [if_true]
        split
        · have hp : 0 < val d := val_pos d hdig (fun x r hd hx => by have := (h48 x r hd hx).1; cases this) hne
          refine .inr ⟨_, wf_of _ (by omega) (by omega), rfl, ?_⟩
          rw [printS_neg _ hp, hof]
          rfl
        · exact .inl rfl
    · rw [if_neg ha]; exact .inl rfl
theorem body_back (n : Int) (hw : (Lit.int .i64 n).wf = true) : bodyS (dgs 20 n.natAbs []) (decide (n < 0)) = (n, true) := by
  have hb := bounds_i64 hw
  have h20 : n.natAbs < 10 ^ 20 := by
    have : (10 : Nat) ^ 20 = 100000000000000000000 := by decide
    omega
  have h19 : n.natAbs < 10 ^ (18 + 1) := by rw [show 18 + 1 = 19 from rfl, pow19]; omega
  have hlen : (dgs 20 n.natAbs []).length ≤ 19 := dgs_length 20 n.natAbs 18 h19
  have hval : val (dgs 20 n.natAbs []) = n.natAbs := dgs_val 20 n.natAbs h20
  have hdig := (allD_iff _).2 (dgs_digits 20 n.natAbs)
  have hne : dgs 20 n.natAbs [] ≠ [] := dgs_ne 19 n.natAbs
  rw [bodyS_free, if_pos hdig, hval]
  · unfold endS
    by_cases hn : n < 0
    · simp only [hn, decide_true, if_true]
      rw [if_pos (by omega)]
      simp; omega
    · simp only [hn, decide_false, Bool.false_eq_true, if_false]
      rw [if_neg (by omega)]
      simp; omega
  · rintro (h | h | ⟨r, h, h'⟩)
    · exact hne h
    · omega
    · obtain ⟨h0, hr⟩ := dgs_head 20 n.natAbs 48 r h20 h rfl
      rcases h' with h' | h'
      · simp at h'; omega
      · exact h' hr
/-- num.Parse tells just as the reference does. -/
theorem nparse_told (s : ByteArray) (k : Nat) (hk : 40 ≤ k) : ∃ r, num_Parse.f k s = some r ∧ Told s r ∧ ∀ n, (Lit.int .i64 n).wf = true → printS n = s → r = (n, true) := by
  obtain ⟨⟨l⟩⟩ := s
  change ∃ r, num_Parse.f k ⟨l.toArray⟩ = some r ∧ Told ⟨l.toArray⟩ r ∧ ∀ n, (Lit.int .i64 n).wf = true → printS n = ⟨l.toArray⟩ → r = (n, true)
  refine ⟨_, nparse l k hk, ?_, ?_⟩
  · split
    · exact body_told _ true
    · exact body_told l false
  · intro n hw hp
    have hb := body_back n hw
    have hp' : printL n = l := by
      have := congrArg ByteArray.data hp
      simpa [printS] using this
    unfold printL at hp'
    by_cases hn : n < 0
    · rw [if_pos hn] at hp'
      rw [show decide (n < 0) = true by simp [hn]] at hb
      rw [← hp']
      exact hb
    · rw [if_neg hn] at hp'
      rw [show decide (n < 0) = false by simp [hn]] at hb
      split
      · exfalso
        have h20 := dgs_digits 20 n.natAbs 45 (by rw [hp']; simp)
        unfold Dig at h20
        have : (45 : UInt8).toNat = 45 := rfl
        omega
      · rw [← hp']; exact hb
theorem rparse_told (s : ByteArray) (hs : s.size ≤ 1000) (k : Nat) (hk : 3100 ≤ k) : ∃ r, ladderbackref04_Parse.f k s = some r ∧ Told s r ∧ ∀ n, (Lit.int .i64 n).wf = true → printS n = s → r = (n, true) := by
  obtain ⟨⟨l⟩⟩ := s
  have hl : l.length ≤ 1000 := by simpa [ByteArray.size] using hs
  obtain ⟨r, hr, ht⟩ := rparse_some l hl l.length 0 k 0 false (by omega) (by omega) (by omega)
  refine ⟨r, hr, ht, fun n hw hp => ?_⟩
  have := rparse_back n hw k (by omega)
  rw [hp] at this
  have h2 : ladderbackref04_Parse.f k ⟨⟨l⟩⟩ = some r := hr
  rw [h2] at this
  exact Option.some.inj this
/-- Both readers tell the same. -/
theorem parse_same (s : ByteArray) (hs : s.size ≤ 1000) (k : Nat) (hk : 3100 ≤ k) : ∃ r, num_Parse.f k s = some r ∧ ladderbackref04_Parse.f k s = some r := by
  obtain ⟨r, h1, h2, h3⟩ := nparse_told s k (by omega)
  obtain ⟨q, g1, g2, g3⟩ := rparse_told s hs k hk
  refine ⟨r, h1, ?_⟩
  rw [g1]
  congr 1
  rcases h2 with h2 | ⟨n, hn, h2, h4⟩
  · rcases g2 with g2 | ⟨m, hm, g2, g4⟩
    · rw [g2, h2]
    · rw [g2, h3 m hm g4]
  · rw [h2, g3 n hn h4]

end Go.Proofs.YticmkjkngngdhaaDoor.POpLines
