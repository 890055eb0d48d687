/- The type of an expression, by the program and by the reference, is the same function of its parts: plain. No condition. -/
import Derived.Test.YtfioegoeeflkbaaDoorQExprTypesx
namespace Go.Proofs.YtfioegoeeflkbaaDoor.PtExprTypes
open Go.Proofs.YtfioegoeeflkbaaDoor Go.Proofs.YtfioegoeeflkbaaDoor.QExprTypes Go.RowKit Go.Proofs.YtfioegoeeflkbaaDoorW.PrintWords Go.Proofs.YtfioegoeeflkbaaDoorW.PrintLast Go.Proofs.YtfioegoeeflkbaaDoorW.PrintMore
set_option linter.unusedSimpArgs false
set_option linter.unusedVariables false
theorem wrap_id (z : Int) (h : -9223372036854775808 ≤ z) (h' : z ≤ 9223372036854775807) : wrap64 z = z := by unfold wrap64; omega
theorem i64b {x : Int} (h : (Lit.int .i64 x).wf = true) : -9223372036854775808 ≤ x ∧ x ≤ 9223372036854775807 := by
  have := bounds_i64 h
  omega
/-! ### kinds -/
def inS (t v : Int) : Bool := if t = 6 then true else if t = 1 then decide (0 ≤ v ∧ v ≤ 1) else if t = 2 then decide (-32768 ≤ v ∧ v ≤ 32767) else if t = 3 then decide (-2147483648 ≤ v ∧ v ≤ 2147483647) else if t = 4 then decide (0 ≤ v ∧ v ≤ 65535) else if t = 5 then decide (0 ≤ v ∧ v ≤ 4294967295) else false
theorem inS_right {t v : Int} (h : inS t v = true) : 1 ≤ t ∧ t ≤ 6 := by
  unfold inS at h
  grind
theorem six (t : Int) : t = 1 ∨ t = 2 ∨ t = 3 ∨ t = 4 ∨ t = 5 ∨ t = 6 ∨ ¬ (1 ≤ t ∧ t ≤ 6) := by omega
theorem inS_out {t : Int} (v : Int) (h : ¬ (1 ≤ t ∧ t ≤ 6)) : inS t v = false := by
  unfold inS
  rw [if_neg (by omega), if_neg (by omega), if_neg (by omega), if_neg (by omega), if_neg (by omega), if_neg (by omega)]
theorem kind_RightE (t : Int) : kind_Right.f t = some (decide (1 ≤ t ∧ t ≤ 6)) := by
  simp only [kind_Right.f]
  grind
theorem kind_InE (t v : Int) (hv : -9223372036854775808 ≤ v ∧ v ≤ 9223372036854775807) : kind_In.f t v = some (inS t v) := by
  unfold kind_In.f
  rw [kind_RightE]
  rcases six t with rfl | rfl | rfl | rfl | rfl | rfl | h
  · simp [kind_Wrap.f, inS]
    by_cases h0 : v = 0
    · subst h0; rfl
    · rw [if_neg h0]; simp only [Option.bind_some]; congr 1; rw [Bool.eq_iff_iff]; simp; omega
  · simp [kind_Wrap.f, inS, IntKind.wrap, IntKind.signed, IntKind.bits]; unfold wrap64; rw [Bool.eq_iff_iff]; simp; omega
  · simp [kind_Wrap.f, inS]; unfold wrap64 wrap32; rw [Bool.eq_iff_iff]; simp; omega
  · simp [kind_Wrap.f, inS, IntKind.wrap, IntKind.signed, IntKind.bits]; unfold wrap64; rw [Bool.eq_iff_iff]; simp; omega
  · simp [kind_Wrap.f, inS]; rw [Bool.eq_iff_iff]; simp; omega
  · simp [kind_Wrap.f, inS]
  · rw [decide_eq_false h, inS_out v h]; rfl
def rgt (t : Int) : Int := if 1 ≤ t ∧ t ≤ 6 then t else 0
theorem typedE (t : Int) : expr_typed.f t = some (rgt t) := by
  simp only [expr_typed.f, kind_Right.f, rgt]
  grind
/-! ### operations -/
def resS (op t : Int) : Int := if aluGo op t = true then (if 20 ≤ op ∧ op ≤ 25 then 1 else t) else 0
theorem resE (op t : Int) (h : op ≤ 9223372036854775807) : alu_Result.f op t = some (resS op t) := by
  simp only [alu_Result.f, alu_Goes.f, alu_compares.f, resS, if_pos h]
  grind
theorem goS_out (op t : Int) (h : ¬ ((1 ≤ t ∧ t ≤ 6) ∧ (8 ≤ op ∧ op ≤ 25))) : aluGo op t = false := by
  unfold aluGo
  grind
theorem resS_rgt (op t : Int) : rgt (resS op t) = resS op t := by
  by_cases h : (1 ≤ t ∧ t ≤ 6) ∧ (8 ≤ op ∧ op ≤ 25)
  · unfold rgt resS; grind
  · unfold resS; rw [goS_out op t h]; rfl
theorem resS_out (op t : Int) (h : ¬ (8 ≤ op ∧ op ≤ 25)) : resS op t = 0 := by
  unfold resS
  rw [goS_out op t (fun hh => h hh.2)]; rfl
/-! ### blocks' fields -/
def fldT (k i : Int) : Int := (blkField k i).2
def tyl (k : Int) : List Int := if 1 ≤ k ∧ k ≤ 3 then [1, 6, 1, 6] else if k = 4 then [1, 1, 2, 1, 2] else if k = 5 then [1, 1, 2, 1, 2] else if k = 6 then [1, 1, 1, 1, 2, 1, 1, 2] else if k = 7 then [1, 1] else if k = 8 then [1, 1] else []
theorem fldT_tyl (d i : Int) : fldT d i = if 0 ≤ i ∧ i < (tyl d).length then (tyl d).getD i.toNat 0 else 0 := by
  have h8 : ∀ (q : Int) (l : List Int) (c : Int), tyl q = l → blkCnt q = c → c = l.length → blkTypes q = l ++ List.replicate (8 - l.length) 0 → fldT q i = if 0 ≤ i ∧ i < (tyl q).length then (tyl q).getD i.toNat 0 else 0 := by
    intro q l c h1 h2 h3 h4
    unfold fldT blkField
    rw [h2, h3, h4, h1]
    split
    · rename_i hh
      simp only [List.getD_eq_getElem?_getD]
      rw [List.getElem?_append_left (by omega)]
    · rfl
  by_cases h : 1 ≤ d ∧ d ≤ 8
  · rcases (by omega : d = 1 ∨ d = 2 ∨ d = 3 ∨ d = 4 ∨ d = 5 ∨ d = 6 ∨ d = 7 ∨ d = 8) with rfl | rfl | rfl | rfl | rfl | rfl | rfl | rfl <;> exact h8 _ _ _ rfl rfl rfl rfl
  · have e : tyl d = [] := by unfold tyl; rw [if_neg (by omega), if_neg (by omega), if_neg (by omega), if_neg (by omega), if_neg (by omega), if_neg (by omega)]
    have e2 : blkCnt d = 0 := by
      unfold blkCnt blkTypes blkFt0 blkFt1 blkFt2 blkFt3 blkFt4 blkFt5 blkFt6 blkFt7
      simp only [if_neg (show ¬ d = 1 by omega), if_neg (show ¬ d = 2 by omega), if_neg (show ¬ d = 3 by omega), if_neg (show ¬ d = 4 by omega), if_neg (show ¬ d = 5 by omega), if_neg (show ¬ d = 6 by omega), if_neg (show ¬ d = 7 by omega), if_neg (show ¬ d = 8 by omega)]
      rfl
    unfold fldT blkField
    rw [e, e2, if_neg (by omega), if_neg (by simp)]
theorem tyl_right (d : Int) (j : Nat) (h : j < (tyl d).length) : 1 ≤ (tyl d).getD j 0 ∧ (tyl d).getD j 0 ≤ 6 := by
  have : ∀ x ∈ tyl d, 1 ≤ x ∧ x ≤ 6 := by
    unfold tyl
    repeat' split
    all_goals simp
  rw [List.getD_eq_getElem?_getD, List.getElem?_eq_getElem h]
  exact this _ (List.getElem_mem h)
theorem fldT_rgt (d i : Int) : rgt (fldT d i) = fldT d i := by
  rw [fldT_tyl]
  split
  · rename_i h
    have := tyl_right d i.toNat (by omega)
    unfold rgt; rw [if_pos this]
  · rfl
/-! ### an expression's type out of its parts' -/
def leafV (vars : List S42) (blks : List S44) (slots : List Int) (op t n m : Int) : Int :=
  if op = 1 then (if m = 0 ∧ inS t n = true then t else 0)
  else if op = 2 then (if t = 0 ∧ m = 0 ∧ 0 ≤ n ∧ n < vars.length ∧ (rd_T42 vars n).f2 < 2 then rgt (rd_T42 vars n).f1 else 0)
  else if op = 3 then (if t = 0 ∧ m = 0 ∧ 0 ≤ n ∧ n < slots.length then rgt (rd slots n) else 0)
  else if op = 5 then (if t = 0 ∧ 0 ≤ n ∧ n < blks.length then fldT (rd_T44 blks n).f1 m else 0)
  else 0
def oneV (vars : List S42) (op t n m a : Int) : Int :=
  if op = 4 then (if t = 0 ∧ m = 0 ∧ 0 ≤ n ∧ n < vars.length ∧ (rd_T42 vars n).f2 > 1 ∧ a = 2 then rgt (rd_T42 vars n).f1 else 0)
  else if op = 6 then (if t = 0 ∧ n = 0 ∧ (m = 13 ∨ m = 17) then resS m a else 0)
  else if op = 8 then (if n = 0 ∧ m = 0 then rgt t else 0)
  else 0
def twoV (op t n m a b : Int) : Int := if op = 7 ∧ t = 0 ∧ n = 0 ∧ 8 ≤ m ∧ m ≤ 25 ∧ ¬ m = 13 ∧ ¬ m = 17 ∧ b = (if m = 18 ∨ m = 19 then 2 else a) then resS m a else 0
theorem binE (m : Int) (hm : m ≤ 9223372036854775807) : alu_Binary.f m = some (decide (8 ≤ m ∧ m ≤ 25 ∧ ¬ m = 13 ∧ ¬ m = 17)) := by
  unfold alu_Binary.f
  by_cases h : m ≥ 8
  · rw [if_pos h, wrap_id _ (by omega) (by omega)]
    repeat' split
    all_goals (congr 1; rw [Bool.eq_iff_iff]; simp; omega)
  · rw [if_neg h, decide_eq_false (by omega)]
theorem leafE (k : Nat) (vars : List S42) (blks : List S44) (sigs : List S99) (slots : List Int) (op t n m : Int) (l : List S30) (hn : -9223372036854775808 ≤ n ∧ n ≤ 9223372036854775807) : expr_leaf.f (k + 4) vars blks sigs slots op t n m l = some (leafV vars blks slots op t n m) := by
  unfold expr_leaf.f leafV
  rw [kind_InE t n hn]
  simp only [expr_leaf.j0, expr_leaf.j1, expr_leaf.j2, expr_leaf.j3, typedE, Option.bind_some, block_Field.f]
  by_cases h1 : op = 1
  · subst h1
    grind
  by_cases h2 : op = 2
  · subst h2
    grind
  by_cases h3 : op = 3
  · subst h3
    grind
  by_cases h5 : op = 5
  · subst h5
    unfold fldT
    grind
  simp only [if_neg h1, if_neg h2, if_neg h3, if_neg h5]
  grind
theorem oneE (k : Nat) (vars : List S42) (blks : List S44) (sigs : List S99) (slots : List Int) (op t n m : Int) (l : List S30) (a : Int) (hm : m ≤ 9223372036854775807) : expr_one.f (k + 2) vars blks sigs slots op t n m l a = some (oneV vars op t n m a) := by
  unfold expr_one.f oneV
  simp only [expr_one.j0, expr_one.j1, typedE, Option.bind_some, binE m hm, resE m a hm]
  by_cases h4 : op = 4
  · subst h4
    grind
  by_cases h6 : op = 6
  · subst h6
    by_cases hb : 8 ≤ m ∧ m ≤ 25
    · grind
    · have := resS_out m a hb
      grind
  by_cases h8 : op = 8
  · subst h8
    grind
  simp only [if_neg h4, if_neg h6, if_neg h8]
  grind
theorem twoE (k : Nat) (op t n m : Int) (l : List S30) (a b : Int) (hm : m ≤ 9223372036854775807) : expr_two.f (k + 2) op t n m l a b = some (twoV op t n m a b) := by
  unfold expr_two.f twoV
  simp only [expr_two.j0, expr_two.j1, Option.bind_some, binE m hm, resE m a hm]
  grind
/-! ### the type of a whole expression -/
def tyK (V : List S42) (B : List S44) (Sl : List Int) (op t n m : Int) (ts : List Int) : Int :=
  if (0 : Int) ∈ ts then 0 else match ts with
  | [] => leafV V B Sl op t n m
  | [a] => oneV V op t n m a
  | [a, b] => twoV op t n m a b
  | _ => 0
mutual
def tyS (V : List S42) (B : List S44) (Sl : List Int) : S30 → Int
  | ⟨op, t, n, m, l⟩ => tyK V B Sl op t n m (tyL V B Sl l)
def tyL (V : List S42) (B : List S44) (Sl : List Int) : List S30 → List Int
  | [] => []
  | x :: xs => tyS V B Sl x :: tyL V B Sl xs
end
theorem tyL_map (V : List S42) (B : List S44) (Sl : List Int) : ∀ l, tyL V B Sl l = l.map (tyS V B Sl)
  | [] => by simp only [tyL, List.map_nil]
  | x :: xs => by simp only [tyL, List.map_cons, tyL_map V B Sl xs]
theorem tyS_eq (V : List S42) (B : List S44) (Sl : List Int) (x : S30) : tyS V B Sl x = tyK V B Sl x.f0 x.f1 x.f2 x.f3 (x.f4.map (tyS V B Sl)) := by
  obtain ⟨a, b, c, d, l⟩ := x
  rw [tyS, tyL_map]
mutual
def cntS : S30 → Nat
  | ⟨_, _, _, _, l⟩ => 1 + cntL l
def cntL : List S30 → Nat
  | [] => 0
  | x :: xs => cntS x + cntL xs
end
theorem cntS_eq (x : S30) : cntS x = 1 + cntL x.f4 := by obtain ⟨a, b, c, d, l⟩ := x; simp only [cntS]
theorem cntS_pos (x : S30) : 1 ≤ cntS x := by rw [cntS_eq]; omega
theorem cntL_len : ∀ l : List S30, l.length ≤ cntL l
  | [] => by simp
  | x :: xs => by
    have := cntL_len xs
    have := cntS_pos x
    simp only [cntL, List.length_cons]; omega
theorem cntL_mem : ∀ {l : List S30} {x : S30}, x ∈ l → cntS x ≤ cntL l
  | y :: ys, x, h => by
    simp only [cntL]
    rcases List.mem_cons.1 h with rfl | h
    · omega
    · have := cntL_mem h; omega
theorem rd_at (l : List S30) (i : Nat) (h : i < l.length) : rd_T30 l (i : Int) = l[i] := by simp [rd_T30, List.getD_eq_getElem?_getD, List.getElem?_eq_getElem h]
theorem next_i {α : Type} (l : List α) (i : Nat) (h : i < l.length) (hm : l.length ≤ 9223372036854775807) : wrap64 ((i : Int) + 1) = ((i + 1 : Nat) : Int) := by rw [wrap_id _ (by omega) (by omega)]; omega
theorem kid_lt (x : S30) (i : Nat) (h : i < x.f4.length) : SizeOf.sizeOf (x.f4[i]) < SizeOf.sizeOf x := by
  have h1 := List.sizeOf_lt_of_mem (List.getElem_mem h)
  obtain ⟨a, b, c, d, l⟩ := x
  simp only [S30.mk.sizeOf_spec] at h1 ⊢
  omega
theorem sz_pos (x : S30) : 0 < SizeOf.sizeOf x := by obtain ⟨a, b, c, d, l⟩ := x; simp only [S30.mk.sizeOf_spec]; omega
theorem kid_w {x : S30} (hx : W30 x) (i : Nat) (h : i < x.f4.length) : W30 (x.f4[i]) := hx.out.2.2.2.2.2 _ (List.getElem_mem h)
theorem len_w {x : S30} (hx : W30 x) : x.f4.length ≤ 9223372036854775807 := hx.out.2.2.2.2.1
theorem type_ev (V : List S42) (B : List S44) (G : List S99) (Sl : List Int) : ∀ (N : Nat) (x : S30), SizeOf.sizeOf x ≤ N → W30 x → cntS x ≤ 1000000 → Ev (fun k => expr_Type.f k V B G Sl x.f0 x.f1 x.f2 x.f3 x.f4) (tyS V B Sl x) := by
  intro N
  induction N with
  | zero => intro x h; exact absurd h (by have := sz_pos x; omega)
  | succ N ih =>
    intro x hN hx hc
    have hm := len_w hx
    have hsmall : x.f4.length ≤ 1000000 := by
      have h1 := cntL_len x.f4
      rw [cntS_eq] at hc; omega
    have hb1 := i64b hx.out.2.2.1
    have hb2 := i64b hx.out.2.2.2.1
    have loop : ∀ (d i : Nat), x.f4.length - i = d → i ≤ x.f4.length → (∀ y ∈ x.f4.take i, tyS V B Sl y ≠ 0) → Ev (fun k => expr_Type.l0 k ((x.f4.take i).map (tyS V B Sl)) x.f4 (x.f4.length : Int) (i : Int) V B G Sl x.f0 x.f1 x.f2 x.f3 x.f4) (tyS V B Sl x) := by
      intro d
      induction d with
      | zero =>
        intro i hd hi hz
        refine ⟨10, fun k hk => ?_⟩
        obtain ⟨k, rfl⟩ : ∃ m, k = m + 5 + 1 := ⟨k - 6, by omega⟩
        simp only [expr_Type.l0]
        rw [if_neg (by omega), tyS_eq]
        have ht : x.f4.take i = x.f4 := List.take_of_length_le (by omega)
        rw [ht] at hz ⊢
        have hz0 : ¬ (0 : Int) ∈ x.f4.map (tyS V B Sl) := fun h => by
          obtain ⟨y, hy, h0⟩ := List.mem_map.1 h
          exact hz y hy h0
        unfold tyK
        rw [if_neg hz0]
        generalize x.f4.map (tyS V B Sl) = ts
        match ts with
        | [] => simp [leafE (k + 1) V B G Sl x.f0 x.f1 x.f2 x.f3 x.f4 hb1]
        | [a] => simp [oneE (k + 3) V B G Sl x.f0 x.f1 x.f2 x.f3 x.f4 a hb2.2, rd]
        | [a, b] => simp [twoE (k + 3) x.f0 x.f1 x.f2 x.f3 x.f4 a b hb2.2, rd]
        | a :: b :: c :: r =>
          rw [if_neg (by simp; omega), if_neg (by simp; omega), if_neg (by simp; omega)]
      | succ d ihd =>
        intro i hd hi hz
        have hlt : i < x.f4.length := by omega
        have hmem := List.getElem_mem hlt
        obtain ⟨K1, h1⟩ := ih x.f4[i] (by have := kid_lt x i hlt; omega) (kid_w hx i hlt) (by have := cntL_mem hmem; rw [cntS_eq] at hc; omega)
        simp only at h1
        by_cases h0 : tyS V B Sl x.f4[i] = 0
        · refine ⟨K1 + 1, fun k hk => ?_⟩
          obtain ⟨k, rfl⟩ : ∃ m, k = m + 1 := ⟨k - 1, by omega⟩
          simp only [expr_Type.l0]
          rw [if_pos (by omega), if_pos (by omega), if_pos (by omega), rd_at _ i hlt, h1 k (by omega)]
          simp only [Option.bind_some]
          rw [if_pos h0, tyS_eq]
          unfold tyK
          rw [if_pos (List.mem_map.2 ⟨_, hmem, h0⟩)]
        · obtain ⟨K2, h2⟩ := ihd (i + 1) (by omega) (by omega) (fun y hy => by
            rw [List.take_succ_eq_append_getElem hlt] at hy
            rcases List.mem_append.1 hy with hy | hy
            · exact hz y hy
            · rw [List.mem_singleton.1 hy]; exact h0)
          simp only at h2
          refine ⟨max K1 K2 + 1, fun k hk => ?_⟩
          obtain ⟨k, rfl⟩ : ∃ m, k = m + 1 := ⟨k - 1, by omega⟩
          simp only [expr_Type.l0]
          rw [if_pos (by omega), if_pos (by omega), if_pos (by omega), rd_at _ i hlt, h1 k (by omega)]
          simp only [Option.bind_some]
          rw [if_neg h0, if_pos (by simp; omega), next_i _ i hlt hm, ← h2 k (by omega), List.take_succ_eq_append_getElem hlt, List.map_append]
          rfl
    obtain ⟨K, h⟩ := loop x.f4.length 0 (by omega) (by omega) (by simp)
    simp only at h
    refine ⟨K + 1, fun k hk => ?_⟩
    obtain ⟨k, rfl⟩ : ∃ m, k = m + 1 := ⟨k - 1, by omega⟩
    simp only [expr_Type.f]
    exact h k (by omega)
end Go.Proofs.YtfioegoeeflkbaaDoor.PtExprTypes
