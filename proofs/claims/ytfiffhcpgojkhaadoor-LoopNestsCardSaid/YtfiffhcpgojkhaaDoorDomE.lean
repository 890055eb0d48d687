/- What dom.Order, dom.Idom and the document's order compute, in plain words; and of the order: places, each once, each but the first behind one from which one comes to it, and with each all to which one goes on. No condition. -/
import Derived.Test.YtfiffhcpgojkhaaDoorProg
import Derived.Below
import Derived.Deep.Draws
import Derived.Deep.AppendLies
import Derived.Maps.AppendAt
import Derived.OwnWalk
import Derived.Laws.BytesArg
import Derived.Laws.MakeOwn
import Derived.Laws.OwnMore
import Derived.Deep.OwnRows
import Derived.Tactics
import Derived.Lib.ConvBytes
import Derived.Laws.Slices
import Derived.WalkKit
import Derived.KernelRfl
import Derived.RowKit3
import Derived.Deep.LoopGhost
import Derived.Deep.QuietTactic
import Derived.BigQuiet
import Derived.WideLaws
import Derived.Deep.DeepCutAuto
import Derived.Deep.CutBlock
import Derived.Deep.RegionHeld3
import Derived.Laws.Rows
import Derived.Lib.AppendStr
import Derived.ArgAppend
import Derived.Laws.IdiomCopy
import Derived.OrdersHeld
import Derived.Laws.BitsLemmas
import Derived.RowKit
import Derived.Laws.EntriesVeiled
import Derived.Laws.ByValue
import Derived.Lib.Hide
import Derived.Test.YtfiffhcpgojkhaaDoorWWords
namespace Go.Proofs.YtfiffhcpgojkhaaDoor.DomF
set_option linter.unusedVariables false
def dfsL (f : Nat → List Bool → List Int → Option (List Bool × List Int)) (n : Nat) : List Int → List Bool → List Int → Option (List Bool × List Int)
  | [], M, D => some (M, D)
  | c :: cs, M, D => if 0 ≤ c ∧ c < (n : Int) ∧ M.getD c.toNat true = false then (f c.toNat M D).bind fun p => dfsL f n cs p.1 p.2 else dfsL f n cs M D
def dfs (next : List (List Int)) : Nat → Nat → List Bool → List Int → Option (List Bool × List Int)
  | 0, _, _, _ => none
  | k + 1, i, M, D => (dfsL (dfs next k) next.length (next.getD i []) (M.set i true) D).map fun p => (p.1, p.2 ++ [(i : Int)])
/-- One goes on from u to v. -/
def E (next : List (List Int)) (u v : Nat) : Prop := (v : Int) ∈ next.getD u [] ∧ v < next.length
/-- Each place has one from which one comes to it behind it, or P. -/
def ParOk (next : List (List Int)) (P : Nat → Prop) : List Nat → Prop
  | [] => True
  | v :: B => ((∃ u, u ∈ B ∧ E next u v) ∨ P v) ∧ ParOk next P B
theorem ParOk.append {next : List (List Int)} {P : Nat → Prop} {A B : List Nat} (ha : ParOk next P A) (hb : ParOk next P B) : ParOk next P (A ++ B) := by
  induction A with
  | nil => exact hb
  | cons v A ih =>
    refine ⟨?_, ih ha.2⟩
    rcases ha.1 with ⟨u, hu, he⟩ | h
    · exact Or.inl ⟨u, List.mem_append_left _ hu, he⟩
    · exact Or.inr h
theorem ParOk.mono {next : List (List Int)} {P Q : Nat → Prop} {A : List Nat} (h : ∀ v, v ∈ A → P v → Q v) (ha : ParOk next P A) : ParOk next Q A := by
  induction A with
  | nil => trivial
  | cons v A ih => exact ⟨ha.1.imp id (h v List.mem_cons_self), ih (fun v hv => h v (List.mem_cons_of_mem _ hv)) ha.2⟩
theorem ParOk.close {next : List (List Int)} {i : Nat} {A : List Nat} (ha : ParOk next (E next i) A) : ParOk next (· = i) (A ++ [i]) := by
  induction A with
  | nil => exact ⟨Or.inr rfl, trivial⟩
  | cons v A ih =>
    refine ⟨?_, ih ha.2⟩
    rcases ha.1 with ⟨u, hu, he⟩ | h
    · exact Or.inl ⟨u, List.mem_append_left _ hu, he⟩
    · exact Or.inl ⟨i, List.mem_append_right _ (List.mem_singleton.mpr rfl), h⟩
def cnt (M : List Bool) : Nat := (M.filter (! ·)).length
theorem cnt_set {M : List Bool} {i : Nat} (h : M.getD i true = false) : cnt (M.set i true) + 1 = cnt M := by
  induction M generalizing i with
  | nil => simp at h
  | cons b M ih =>
    cases i with
    | zero => simp at h; subst h; simp [cnt]
    | succ i =>
      have := ih (i := i) (by simpa using h)
      cases b <;> simp [cnt] at this ⊢ <;> omega
theorem cnt_le {M N : List Bool} (hl : M.length = N.length) (h : ∀ v, M.getD v true = true → N.getD v true = true) : cnt N ≤ cnt M := by
  induction M generalizing N with
  | nil => cases N with
    | nil => exact Nat.le_refl _
    | cons => simp at hl
  | cons b M ih =>
    cases N with
    | nil => simp at hl
    | cons c N =>
      have h1 := ih (N := N) (by simpa using hl) (fun v hv => by simpa using h (v + 1) (by simpa using hv))
      have h0 := h 0
      cases b <;> cases c <;> simp [cnt] at h1 h0 ⊢ <;> omega
structure Spec (next : List (List Int)) (P : Nat → Prop) (M M' : List Bool) (S : List Nat) : Prop where
  len : M'.length = M.length
  met : ∀ v, M'.getD v true = true ↔ M.getD v true = true ∨ v ∈ S
  nd : S.Nodup
  new : ∀ v, v ∈ S → M.getD v true = false
  par : ParOk next P S
  clo : ∀ u, u ∈ S → ∀ v, E next u v → M'.getD v true = true
theorem getD_set {M : List Bool} {i v : Nat} (hi : i < M.length) : (M.set i true).getD v true = true ↔ M.getD v true = true ∨ v = i := by
  by_cases h : v = i
  · subst h; simp [List.getD_eq_getElem?_getD, hi]
  · simp [List.getD_eq_getElem?_getD, Ne.symm h, h]
theorem ints_append (A B : List Nat) : (A ++ B).map (fun v : Nat => (v : Int)) = A.map (fun v : Nat => (v : Int)) ++ B.map (fun v : Nat => (v : Int)) := List.map_append
theorem dfs_spec (next : List (List Int)) : ∀ k i M D, M.length = next.length → i < next.length → M.getD i true = false → cnt M ≤ k →
    ∃ M' S, dfs next k i M D = some (M', D ++ (S ++ [i]).map (fun v : Nat => (v : Int))) ∧ Spec next (· = i) M M' (S ++ [i]) := by
  intro k
  induction k with
  | zero =>
    intro i M D hl hi hm hc
    have := cnt_set hm
    omega
  | succ k ih =>
    intro i M D hl hi hm hc
    have hi' : i < M.length := by omega
    have key : ∀ cs, (∀ c, c ∈ cs → c ∈ next.getD i []) → ∀ M D, M.length = next.length → cnt M ≤ k → ∃ M' S, dfsL (dfs next k) next.length cs M D = some (M', D ++ S.map (fun v : Nat => (v : Int))) ∧ Spec next (E next i) M M' S ∧ ∀ v : Nat, (v : Int) ∈ cs → v < next.length → M'.getD v true = true := by
      intro cs
      induction cs with
      | nil =>
        intro _ M D hl hc
        refine ⟨M, [], by simp [dfsL], ⟨rfl, by simp, List.nodup_nil, by simp, trivial, by simp⟩, by simp⟩
      | cons c cs ihc =>
        intro hsub M D hl hc
        have hsub' : ∀ c, c ∈ cs → c ∈ next.getD i [] := fun c h => hsub c (List.mem_cons_of_mem _ h)
        simp only [dfsL]
        by_cases h : 0 ≤ c ∧ c < (next.length : Int) ∧ M.getD c.toNat true = false
        · rw [if_pos h]
          obtain ⟨h0, h1, h2⟩ := h
          obtain ⟨M1, S1, e1, p1⟩ := ih c.toNat M D hl (by omega) h2 hc
          rw [e1]
          simp only [Option.bind_some]
          have hc1 : cnt M1 ≤ k := Nat.le_trans (cnt_le p1.len.symm fun v hv => (p1.met v).mpr (Or.inl hv)) hc
          obtain ⟨M2, S2, e2, p2, c2⟩ := ihc hsub' M1 (D ++ (S1 ++ [c.toNat]).map (fun v : Nat => (v : Int))) (p1.len.trans hl) hc1
          refine ⟨M2, (S1 ++ [c.toNat]) ++ S2, ?_, ⟨p2.len.trans p1.len, ?_, ?_, ?_, ?_, ?_⟩, ?_⟩
          · rw [e2]; simp
          · intro v
            rw [p2.met, p1.met, List.mem_append (s := S1 ++ [c.toNat]), or_assoc]
          · refine List.nodup_append.mpr ⟨p1.nd, p2.nd, ?_⟩
            rintro a ha b hb rfl
            have := p2.new a hb
            rw [(p1.met a).mpr (Or.inr ha)] at this
            cases this
          · intro v hv
            rcases List.mem_append.mp hv with hv | hv
            · exact p1.new v hv
            · have h3 := p2.new v hv
              cases h4 : M.getD v true with
              | false => rfl
              | true => rw [(p1.met v).mpr (Or.inl h4)] at h3; cases h3
          · refine ParOk.append (p1.par.mono ?_) p2.par
            rintro v hv rfl
            exact ⟨by rw [Int.toNat_of_nonneg h0]; exact hsub _ List.mem_cons_self, by omega⟩
          · intro u hu v he
            rcases List.mem_append.mp hu with hu | hu
            · exact (p2.met v).mpr (Or.inl (p1.clo u hu v he))
            · exact p2.clo u hu v he
          · intro v hv hn
            rcases List.mem_cons.mp hv with hv | hv
            · refine (p2.met v).mpr (Or.inl ((p1.met v).mpr (Or.inr ?_)))
              rw [← hv]
              simp
            · exact c2 v hv hn
        · rw [if_neg h]
          obtain ⟨M2, S2, e2, p2, c2⟩ := ihc hsub' M D hl hc
          refine ⟨M2, S2, e2, p2, fun v hv hn => ?_⟩
          rcases List.mem_cons.mp hv with hv | hv
          · subst hv
            refine (p2.met v).mpr (Or.inl ?_)
            cases h4 : M.getD v true with
            | true => rfl
            | false => exact absurd ⟨by omega, by omega, by simpa using h4⟩ h
          · exact c2 v hv hn
    obtain ⟨M', S, e, p, c⟩ := key (next.getD i []) (fun _ h => h) (M.set i true) D (by simpa using hl) (by have := cnt_set hm; omega)
    have hmet : ∀ v, M'.getD v true = true ↔ M.getD v true = true ∨ v ∈ S ++ [i] := by
      intro v
      rw [p.met, getD_set hi', List.mem_append, List.mem_singleton, or_assoc, or_comm (a := v = i)]
    refine ⟨M', S, ?_, ⟨?_, hmet, ?_, ?_, ?_, ?_⟩⟩
    · simp only [dfs, e]
      simp
    · rw [p.len, List.length_set]
    · refine List.nodup_append.mpr ⟨p.nd, by simp, ?_⟩
      intro a ha b hb
      rw [List.mem_singleton] at hb
      rintro rfl
      have h := p.new a ha
      rw [(getD_set hi').mpr (Or.inr hb)] at h
      cases h
    · intro v hv
      rcases List.mem_append.mp hv with hv | hv
      · have h := p.new v hv
        cases h4 : M.getD v true with
        | false => rfl
        | true => rw [(getD_set hi').mpr (Or.inl h4)] at h; cases h
      · rw [List.mem_singleton] at hv; rw [hv]; exact hm
    · exact p.par.close
    · intro u hu v he
      rcases List.mem_append.mp hu with hu | hu
      · exact p.clo u hu v he
      · rw [List.mem_singleton] at hu
        subst hu
        exact c v he.1 he.2
def orderF (next : List (List Int)) : Option (List Int) := if next.length = 0 then some [] else (dfs next next.length 0 (List.replicate next.length false) []).map fun p => p.2.reverse
/-- One comes to a place. -/
inductive Rch (next : List (List Int)) : Nat → Prop
  | root : 0 < next.length → Rch next 0
  | step {u v : Nat} : Rch next u → E next u v → Rch next v
theorem cnt_replicate (n : Nat) : cnt (List.replicate n false) = n := by simp [cnt]
/-- The order. -/
theorem orderF_spec (next : List (List Int)) (hn : 0 < next.length) : ∃ T : List Nat, orderF next = some ((0 :: T).map (fun v : Nat => (v : Int))) ∧ (0 :: T).Nodup ∧ (∀ v, v ∈ 0 :: T ↔ Rch next v) ∧ (∀ A v B, T = A ++ v :: B → ∃ u, u ∈ 0 :: A ∧ E next u v) := by
  obtain ⟨M', S, e, p⟩ := dfs_spec next next.length 0 (List.replicate next.length false) [] (by simp) hn (by simp [List.getD_eq_getElem?_getD, hn]) (by rw [cnt_replicate]; exact Nat.le_refl _)
  have hlt : ∀ v, v < next.length → (List.replicate next.length false).getD v true = false := fun v hv => by simp [List.getD_eq_getElem?_getD, hv]
  have hge : ∀ v, v ∈ S ++ [0] → v < next.length := by
    intro v hv
    have h := p.new v hv
    by_cases hl : v < next.length
    · exact hl
    · simp [List.getD_eq_getElem?_getD, hl] at h
  have hrev : (S ++ [0]).reverse = 0 :: S.reverse := by simp
  refine ⟨S.reverse, ?_, ?_, ?_, ?_⟩
  · simp only [orderF, if_neg (Nat.pos_iff_ne_zero.mp hn), e]
    simp
  · rw [← hrev]
    exact List.pairwise_reverse.mpr (p.nd.imp Ne.symm)
  · intro v
    rw [← hrev, List.mem_reverse]
    constructor
    · -- by the parents, from the end on
      have : ∀ A : List Nat, ParOk next (· = 0) A → ∀ v, v ∈ A → Rch next v := by
        intro A
        induction A with
        | nil => intro _ v hv; cases hv
        | cons a A ih =>
          intro h v hv
          rcases List.mem_cons.mp hv with rfl | hv
          · rcases h.1 with ⟨u, hu, he⟩ | rfl
            · exact .step (ih h.2 u hu) he
            · exact .root hn
          · exact ih h.2 v hv
      exact this _ p.par v
    · intro h
      induction h with
      | root => simp
      | @step u v _ he ih =>
        have h1 := p.clo u ih v he
        rcases (p.met v).mp h1 with h | h
        · rw [hlt v he.2] at h; cases h
        · exact h
  · intro A v B hS
    have h2 : S = B.reverse ++ v :: A.reverse := by
      have := congrArg List.reverse hS
      simpa using this
    have h3 := p.par
    rw [h2, List.append_assoc] at h3
    have : ∀ X : List Nat, ParOk next (· = 0) (X ++ (v :: A.reverse ++ [0])) → ParOk next (· = 0) (v :: (A.reverse ++ [0])) := by
      intro X
      induction X with
      | nil => exact id
      | cons x X ih => exact fun h => ih h.2
    have h4 := (this _ h3).1
    rcases h4 with ⟨u, hu, he⟩ | rfl
    · refine ⟨u, ?_, he⟩
      simpa [or_comm] using hu
    · have hnd := p.nd
      rw [h2] at hnd
      exact absurd rfl ((List.nodup_append.mp hnd).2.2 0 (by simp) 0 (by simp))
end Go.Proofs.YtfiffhcpgojkhaaDoor.DomF
/- dom.Order by hand: its closure walks from a place on; what is met and done lies in boxes. No condition. -/
namespace Go.Proofs.YtfiffhcpgojkhaaDoor
open Go.RowKit Go.Proofs.YtfiffhcpgojkhaaDoorW.PrintWords Go.Proofs.YtfiffhcpgojkhaaDoorW.PrintLast Go.Proofs.YtfiffhcpgojkhaaDoorW.PrintMore Go.Proofs.YtfiffhcpgojkhaaDoor.DomF
set_option linter.unusedVariables false
set_option linter.unusedSimpArgs false
namespace DomA
theorem infoI : (Tryd.prog.info? 3).map (fun i => (i.zero, i.size, i.bytes)) = some (some (.int .i64 0), 1, 8) := by kernel_rfl
theorem infoB : (Tryd.prog.info? 4).map (fun i => (i.zero, i.size, i.bytes)) = some (some (.bool false), 1, 1) := by kernel_rfl
def rdL (xs : List (List Int)) (i : Int) : (List Int) := xs.getD i.toNat ([] : List Int)
theorem at_L {w : World} {A : Option Addr} {n : Nat} {xs : List (List Int)} (h : Kd.C (Kd.slice 3 (Kd.int .i64)) w A n xs) (i : Int) (h0 : 0 ≤ i) (h1 : i < n) : ∃ ad A0 c0, A = some ad ∧ w.cell? (ad.add i.toNat) = some (.slice A0 (rdL xs i).length c0) ∧ (rdL xs i).length ≤ c0 ∧ (Kd.int .i64).C w A0 (rdL xs i).length (rdL xs i) := by
  obtain ⟨ad, c, e, _, hK, hc0⟩ := Kd.C_get h ([] : List Int) i h0 h1
  have hc : ∀ j u, c[j]? = some u → w.cell? (ad.add (i.toNat * 1 + j)) = some u := hc0
  obtain ⟨A0, c0, rfl, l0, g0⟩ := hK
  exact ⟨ad, A0, c0, e, by have hq := hc 0 _ rfl; rwa [Nat.mul_one, Nat.add_zero] at hq, l0, g0⟩
theorem dfsL_len {f : Nat → List Bool → List Int → Option (List Bool × List Int)} {n : Nat} (hf : ∀ i M D p, f i M D = some p → D.length < p.2.length ∧ p.1.length = M.length) : ∀ cs M D p, dfsL f n cs M D = some p → D.length ≤ p.2.length ∧ p.1.length = M.length := by
  intro cs
  induction cs with
  | nil => intro M D p h; simp only [dfsL, Option.some.injEq] at h; subst h; exact ⟨Nat.le_refl _, rfl⟩
  | cons c cs ih =>
    intro M D p h
    simp only [dfsL] at h
    split at h
    · obtain ⟨q, hq, h⟩ := Option.bind_eq_some_iff.mp h
      have h1 := hf _ _ _ _ hq
      have h2 := ih _ _ _ h
      exact ⟨by omega, by omega⟩
    · exact ih _ _ _ h
theorem dfs_len (next : List (List Int)) : ∀ k i M D p, dfs next k i M D = some p → D.length < p.2.length ∧ p.1.length = M.length := by
  intro k
  induction k with
  | zero => intro i M D p h; cases h
  | succ k ih =>
    intro i M D p h
    simp only [dfs] at h
    obtain ⟨q, hq, h⟩ := Option.map_eq_some_iff.mp h
    have h1 := dfsL_len ih _ _ _ _ hq
    subst h
    simp only [List.length_append, List.length_cons, List.length_nil, List.length_set] at h1 ⊢
    exact ⟨by omega, h1.2⟩
/-- The captured variables' boxes. -/
structure Bx where
  bm : Nat
  bn : Nat
  bf : Nat
  bo : Nat
  rm : Nat
  cm : Nat
  A0 : Option Addr
  n : Nat
  c0 : Nat
/-- The world while one walks: M is met, D is done. -/
structure OS (w0 : World) (x : Bx) (M : List Bool) (D : List Int) (W : World) : Prop where
  below : Below w0.heap.size w0 W
  hm : W.heap[x.bm]? = some (.cells #[.slice (some ⟨x.rm, 0, none⟩) x.n x.cm] 38 (0, 0))
  hn : W.heap[x.bn]? = some (.cells #[.slice x.A0 x.n x.c0] 22 (0, 0))
  hf : W.heap[x.bf]? = some (.cells #[.func (.func 28) #[] #[.pointer (some ⟨x.bm, 0, none⟩), .pointer (some ⟨x.bn, 0, none⟩), .pointer (some ⟨x.bf, 0, none⟩), .pointer (some ⟨x.bo, 0, none⟩)]] 52 (0, 0))
  ho : ∃ v, W.heap[x.bo]? = some (.cells #[v] 26 (0, 0)) ∧ Kd.R (Kd.int .i64) 3 W w0.heap.size (fun _ => True) v D
  met : Kd.R Kd.bool 4 W w0.heap.size (fun _ => True) (.slice (some ⟨x.rm, 0, none⟩) x.n x.cm) M
  lo : w0.heap.size ≤ x.bo
theorem ne_of_type {W : World} {a b : Nat} {cs cs' : Array Value} {t t' : TypeId} (ha : W.heap[a]? = some (.cells cs t (0, 0))) (hb : W.heap[b]? = some (.cells cs' t' (0, 0))) (ht : t ≠ t') : a ≠ b := by
  rintro rfl
  rw [ha] at hb
  injection hb with hb
  injection hb with _ h2 _
  exact ht h2
theorem OS.drew {w0 : World} {x : Bx} {M : List Bool} {D : List Int} {W : World} (h : OS w0 x M D W) (m : Nat) : OS w0 x M D (W.drewN m) := by
  obtain ⟨h1, h2, h3, h4, ⟨v, h5, h6⟩, h7, h8⟩ := h
  exact ⟨pw_below_drewN h1 _, h2, h3, h4, ⟨v, h5, Kd.R_drewN h6 _⟩, Kd.R_drewN h7 _, h8⟩
/-- The row of what is met has a place set. -/
theorem OS.put {w0 : World} {x : Bx} {M : List Bool} {D : List Int} {W : World} (h : OS w0 x M D W) (i : Int) (hM : 0 < M.length) (b : Bool) : OS w0 x (M.set i.toNat b) D (W.setCell ⟨x.rm, i.toNat, none⟩ (.bool b)) := by
  obtain ⟨h1, h2, h3, h4, ⟨v, h5, h6⟩, h7, h8⟩ := h
  obtain ⟨hp, hg⟩ := Kd.R_putg h7 i b
  obtain ⟨go, co, eo, gb, gl, cs, hc⟩ := Kd.R_form h7 hM
  obtain ⟨e1, e2⟩ : (⟨x.rm, 0, none⟩ : Addr) = ⟨go, 0, none⟩ ∧ True := ⟨by injection eo with e; injection e, trivial⟩
  injection e1 with e1
  subst e1
  have nm := ne_of_type h2 hc (by decide)
  have nn := ne_of_type h3 hc (by decide)
  have nf := ne_of_type h4 hc (by decide)
  have no := ne_of_type h5 hc (by decide)
  refine ⟨below_set h1 gb, blk_grown h2 hg (by simpa using nm), blk_grown h3 hg (by simpa using nn), blk_grown h4 hg (by simpa using nf), ⟨v, blk_grown h5 hg (by simpa using no), ?_⟩, hp, h8⟩
  exact Kd.R_over' (v := .slice (some ⟨x.rm, 0, none⟩) x.n x.cm) h6 (Kd.R_typed h7) (by decide) hg
/-- Something is appended to the row of what is done, and its slice stored. -/
theorem OS.app {w0 : World} {x : Bx} {M : List Bool} {D D' : List Int} {W w1 : World} (h : OS w0 x M D W) {v v1 : Value} (hv : W.heap[x.bo]? = some (.cells #[v] 26 (0, 0))) (hr : Kd.R (Kd.int .i64) 3 W w0.heap.size (fun _ => True) v D)
    (hr1 : Kd.R (Kd.int .i64) 3 w1 w0.heap.size (fun _ => True) v1 D') (hb : Below w0.heap.size w0 w1) (hg : W.grownBy w1 v.ownBlock) : OS w0 x M D' (w1.setCell ⟨x.bo, 0, none⟩ v1) := by
  obtain ⟨h1, h2, h3, h4, _, h7, h8⟩ := h
  have key : ∀ {b : Nat} {cs : Array Value} {t : TypeId}, W.heap[b]? = some (.cells cs t (0, 0)) → t ≠ 3 → w1.heap[b]? = some (.cells cs t (0, 0)) := by
    intro b cs t hb ht
    refine blk_grown hb hg ?_
    intro e
    obtain ⟨cs2, hc⟩ := Kd.R_typed hr b e.symm
    exact ne_of_type hb hc ht rfl
  have k2 := key h2 (by decide)
  have k3 := key h3 (by decide)
  have k4 := key h4 (by decide)
  have k5 := key hv (by decide)
  have r7 := Kd.R_over' h7 (Kd.R_typed hr) (by decide) hg
  have gs : w1.grownBy (w1.setCell ⟨x.bo, 0, none⟩ v1) (some x.bo) := ⟨rfl, rfl, rfl, by simp [World.setCell], fun k _ hk => Below.heap_setCell _ _ _ k (fun e => hk (by rw [e]))⟩
  have far : ∀ {b : Nat} {cs : Array Value} {t : TypeId}, w1.heap[b]? = some (.cells cs t (0, 0)) → t ≠ 26 → (w1.setCell ⟨x.bo, 0, none⟩ v1).heap[b]? = some (.cells cs t (0, 0)) := fun hb ht => blk_far hb (ne_of_type hb k5 ht) v1
  refine ⟨below_set hb h8, far k2 (by decide), far k3 (by decide), far k4 (by decide), ⟨v1, blk_put k5 0 v1 rfl, ?_⟩, ?_, h8⟩
  · exact Kd.R_over' (v := .slice (some ⟨x.bo, 0, none⟩) 1 1) hr1 (fun k hk => by cases hk; exact ⟨_, k5⟩) (by decide) gs
  · exact Kd.R_over' (v := .slice (some ⟨x.bo, 0, none⟩) 1 1) r7 (fun k hk => by cases hk; exact ⟨_, k5⟩) (by decide) gs
theorem box_still {W w1 : World} {b : Nat} {t : TypeId} {cs : Array Value} {base : Nat} {v : Value} {D : List Int} (hv : W.heap[b]? = some (.cells cs t (0, 0))) (ht : t ≠ 3) (hr : Kd.R (Kd.int .i64) 3 W base (fun _ => True) v D) (hg : W.grownBy w1 v.ownBlock) : w1.heap[b]? = some (.cells cs t (0, 0)) := by
  refine blk_grown hv hg ?_
  intro e
  obtain ⟨cs2, hc⟩ := Kd.R_typed hr b e.symm
  exact ne_of_type hv hc ht rfl
set_option maxHeartbeats 8000000 in
set_option maxRecDepth 100000 in
theorem deep_calls (w0 : World) (x : Bx) (next : List (List Int)) (hn : x.n = next.length) (hr : Kd.C (Kd.slice 3 (Kd.int .i64)) w0 x.A0 next.length next) (hc : next.length ≤ x.c0) (hbig : ∀ i, (next.getD i []).length < 4611686018427387904) : ∀ k i M D M1 D1, i < next.length → M.length = next.length → dfs next k i M D = some (M1, D1) → D1.length ≤ 17592186044416 → ∀ W, OS w0 x M D W →
    Calls Tryd.prog 28 #[.int .i64 (i : Int), .pointer (some ⟨x.bm, 0, none⟩), .pointer (some ⟨x.bn, 0, none⟩), .pointer (some ⟨x.bf, 0, none⟩), .pointer (some ⟨x.bo, 0, none⟩)] W fun e w' => e = .returned (.tuple #[]) ∧ OS w0 x M1 D1 w' := by
  intro k
  induction k with
  | zero => intro i M D M1 D1 _ _ h; cases h
  | succ k ih =>
  intro i M D M1 D1 hi hM h hD W hW
  simp only [dfs] at h
  obtain ⟨⟨M2, D2⟩, hq, h⟩ := Option.map_eq_some_iff.mp h
  simp only [Prod.mk.injEq] at h
  obtain ⟨rfl, rfl⟩ := h
  obtain ⟨ad, A1, c1, eA, hx, hl1, hr1⟩ := at_L hr (i : Int) (by omega) (by omega)
  have ecs : rdL next (i : Int) = next.getD i [] := by simp [rdL]
  rw [ecs] at hx hl1 hr1
  rw [Int.toNat_natCast] at hx
  have hl63 := hbig i
  generalize hcs : next.getD i [] = cs at *
  have HX := Aside0.mk hx
  have HR1 := Aside0.mk hr1
  have HQ := Aside0.mk hq
  have HD := Aside0.mk hD
  have HW := Aside0.mk hW
  have IH := Aside0.mk ih
  have HI := Aside0.mk hi
  have HM := Aside0.mk hM
  have HBIG := Aside0.mk hbig
  clear hx hr1 hq hD ih hr hM hbig
  have z0 : decide (0 ≤ (i : Int)) = true := decide_eq_true (by omega)
  have z1 : decide ((i : Int) < (x.n : Int)) = true := decide_eq_true (by omega)
  have z2 : (i < x.n) = True := eq_true (by omega)
  have z3 : ((i : Int) < (x.n : Int)) = True := eq_true (by omega)
  have z4 : (0 ≤ (i : Int)) = True := eq_true (by omega)
  have f1 : W.cell? ⟨x.bm, 0, none⟩ = some (.slice (some ⟨x.rm, 0, none⟩) x.n x.cm) := (blk_cell hW.hm 0).trans rfl
  obtain ⟨f2, f3⟩ := Kd.R_celln false hW.met (i : Int) (by omega) (by omega)
  rw [Int.toNat_natCast] at f2 f3
  obtain ⟨bm, bn, bf, bo, rm, cm, A0, n, c0⟩ := x
  simp only at hn eA z1 z2 z3 f1 f2 f3 hc ⊢
  subst hn
  subst eA
  clear hW h hl1 hcs hi
  have hM2 : 0 < M.length := by have := HI.out; have := HM.out; omega
  go_enter Tryd.func28, Tryd.ntmps28
  go_wp2_with ((with_reducible refine gate_store (t := 4) (p := 10) rfl ?_); refine store_event (t := 4) (p := 10) (v := ?vo) (w1 := (W.setCell ⟨rm, i, none⟩ (.bool true))) ?hg ?ho ?hn ?hr ?_; (case ho => rfl); (case hg => rfl); (case hn => rfl); (case hr => first | (go_simp; done) | (go_simp; rfl)); intro W1 hw; have h1 : OS w0 ⟨bm, bn, bf, bo, rm, cm, some ad, next.length, c0⟩ (M.set i true) D W1 := (by rw [hw]; exact HW.out.put (i : Int) hM2 true); clear hw; have H1 := Aside0.mk h1; have f4 : W1.cell? ⟨bn, 0, none⟩ = some (.slice (some ad) next.length c0) := (blk_cell h1.hn 0).trans rfl; have f5 : W1.cell? (ad.add i) = some (.slice A1 cs.length c1) := (h1.below.cell (World.block_lt_of_cell? _ _ HX.out)).trans HX.out; clear h1)
  clear f1 f2 f3 hM2
  go_loopw [16] (fun vi wr => ∃ (j : Nat) (M' : List Bool) (D' : List Int), vi = .int .i64 (j : Int) ∧ j ≤ cs.length ∧ M'.length = next.length ∧ Aside0 (dfsL (dfs next k) next.length (cs.drop j) M' D' = some (M2, D2)) ∧ Aside0 (OS w0 ⟨bm, bn, bf, bo, rm, cm, some ad, next.length, c0⟩ M' D' wr)) (fun vi _ => cs.length - (intOf vi).toNat)
  case atStart => exact ⟨0, M.set i true, D, rfl, Nat.zero_le _, by rw [List.length_set]; exact HM.out, HQ, H1⟩
  case round =>
    obtain ⟨j, M', D', rfl, hj, hM', HQ', HW'⟩ := hrel
    have hb := HW'.out.below
    have HB := Aside0.mk hb
    by_cases hlt : j < cs.length
    · obtain ⟨a1, eA1, hx1⟩ := Kd.at_int (Kd.C_below HR1.out hb) (j : Int) (by omega) (by omega)
      rw [Int.toNat_natCast] at hx1
      have hdrop : cs.drop j = rd cs (j : Int) :: cs.drop (j + 1) := by
        rw [List.drop_eq_getElem_cons hlt]
        simp [rd, hlt]
      have hq := HQ'.out
      rw [hdrop] at hq
      simp only [dfsL] at hq
      clear hdrop HQ'
      subst eA1
      generalize rd cs (j : Int) = c at hx1 hq
      have y0 : decide ((j : Int) < (cs.length : Int)) = true := decide_eq_true (by omega)
      have y1 : (j < cs.length) = True := eq_true hlt
      have y2 : ((j : Int) < (cs.length : Int)) = True := eq_true (by omega)
      have g1 : wr.cell? ⟨bm, 0, none⟩ = some (.slice (some ⟨rm, 0, none⟩) next.length cm) := (blk_cell HW'.out.hm 0).trans rfl
      have g2 : wr.cell? ⟨bn, 0, none⟩ = some (.slice (some ad) next.length c0) := (blk_cell HW'.out.hn 0).trans rfl
      have g3 : wr.cell? ⟨bf, 0, none⟩ = some (.func (.func 28) #[] #[.pointer (some ⟨bm, 0, none⟩), .pointer (some ⟨bn, 0, none⟩), .pointer (some ⟨bf, 0, none⟩), .pointer (some ⟨bo, 0, none⟩)]) := (blk_cell HW'.out.hf 0).trans rfl
      by_cases k0 : 0 ≤ c
      · have k0b : decide (0 ≤ c) = true := decide_eq_true k0
        by_cases k1 : c < (next.length : Int)
        · have k1b : decide (c < (next.length : Int)) = true := decide_eq_true k1
          obtain ⟨g4, _⟩ := Kd.R_celln false HW'.out.met c k0 k1
          have em : rdOf false M' c = M'.getD c.toNat true := by
            have : c.toNat < M'.length := by omega
            simp [rdOf, List.getD_eq_getElem?_getD, this]
          rw [em] at g4
          have k0t : (0 ≤ c) = True := eq_true k0
          have k1t : (c < (next.length : Int)) = True := eq_true k1
          have k2t : (c.toNat < next.length) = True := eq_true (by omega)
          cases hme : M'.getD c.toNat true with
          | false =>
            rw [hme] at g4 hq
            rw [if_pos ⟨k0, k1, rfl⟩] at hq
            obtain ⟨⟨M3, D3⟩, hq1, hq2⟩ := Option.bind_eq_some_iff.mp hq
            have HQ2 := Aside0.mk hq2
            have HQ1 := Aside0.mk hq1
            clear hq hq1 hq2 em hme hb
            have hcall := IH.out c.toNat M' D' M3 D3 (by omega) hM' HQ1.out (by
              have h2 := (dfsL_len (dfs_len next k) _ _ _ _ HQ2.out).1
              have h3 := HD.out
              simp only [List.length_append, List.length_cons, List.length_nil] at h2 h3
              omega) _ HW'.out
            rw [Int.toNat_of_nonneg k0] at hcall
            have HL := Aside0.mk hcall
            have hM3 : M3.length = next.length := (dfs_len next k _ _ _ _ HQ1.out).2.trans hM'
            clear hcall
            go_wp2_with (go_at_call 28; refine HL.out.mono ?_; rintro e W5 ⟨rfl, h5⟩; have H5 := Aside0.mk h5; clear h5)
            go_roundw
            case rel => exact ⟨j + 1, M3, D3, by go_num, hlt, hM3, HQ2, H5⟩
            case measure => simp [intOf]; omega
          | true =>
            rw [hme] at g4 hq
            rw [if_neg (by simp)] at hq
            have HQ2 := Aside0.mk hq
            clear hq em hme hb
            go_wp2
            go_roundw
            case rel => exact ⟨j + 1, M', D', by go_num, hlt, hM', HQ2, HW'⟩
            case measure => simp [intOf]; omega
        · have k1b : decide (c < (next.length : Int)) = false := decide_eq_false k1
          rw [if_neg (fun h => k1 h.2.1)] at hq
          have HQ2 := Aside0.mk hq
          clear hq hb
          go_wp2
          go_roundw
          case rel => exact ⟨j + 1, M', D', by go_num, hlt, hM', HQ2, HW'⟩
          case measure => simp [intOf]; omega
      · have k0b : decide (0 ≤ c) = false := decide_eq_false k0
        rw [if_neg (fun h => k0 h.1)] at hq
        have HQ2 := Aside0.mk hq
        clear hq hb
        go_wp2
        go_roundw
        case rel => exact ⟨j + 1, M', D', by go_num, hlt, hM', HQ2, HW'⟩
        case measure => simp [intOf]; omega
    · obtain rfl : j = cs.length := by omega
      have hq := HQ'.out
      rw [List.drop_length] at hq
      simp only [dfsL, Option.some.injEq, Prod.mk.injEq] at hq
      obtain ⟨rfl, rfl⟩ := hq
      obtain ⟨v, hv, hrv⟩ := HW'.out.ho
      have HV := Aside0.mk hv
      have HRV := Aside0.mk hrv
      have g5 : wr.cell? ⟨bo, 0, none⟩ = some v := (blk_cell hv 0).trans rfl
      clear hv hrv hlt hj
      go_wp2_with (first | ((with_reducible refine gate_builtin (b := .append) (xs := #[.tmp 39, .tmp 41]) rfl ?_); (try (refine gate_guard (by rfl) ?_; dsimp only)); at_builtin; refine Kd.R_append (Kd.int .i64) (w0 := w0) w0.heap.size rfl (.tmp 39) (.tmp 41) 26 3 (.int .i64 0) 8 rfl Tryd.underlying26 infoI rfl (by decide) (by omega) v D' (i : Int) [.int .i64 (i : Int)] (fun _ => True) (fun _ => False) rfl rfl ?aP (fun _ hk => hk.elim) ?aF ?aO ?aB ?aS ?aL ?_; (case aP => exact rfl); (case aB => exact HB.out); (case aF => exact fun _ _ => trivial); (case aO => exact HRV.out); (case aS => exact below_size HB.out); (case aL => have := HD.out; simp only [List.length_append, List.length_cons, List.length_nil] at this; omega); intro v1 w1 ho hb1 hg1 hat1; have q6 := box_still HV.out (by decide) HRV.out hg1; have q7 : w1.cell? ⟨bo, 0, none⟩ = some v := (blk_cell q6 0).trans rfl; have q8 := blk_frozen q6 0; have H6 := Aside0.mk (HW'.out.app HV.out HRV.out ho hb1 hg1); obtain ⟨A6, c6, e6⟩ := Kd.R_slice ho; subst e6; clear ho hb1 hg1 hat1 q6))
      refine bodyPost_end (results_none rfl _ _ _) rfl ?_
      exact ⟨rfl, by have h9 := H6.out; rw [List.length_append] at h9; exact h9⟩
end DomA
end Go.Proofs.YtfiffhcpgojkhaaDoor
/- dom.Order by hand, over its closure. No condition. -/
namespace Go.Proofs.YtfiffhcpgojkhaaDoor
open Go.RowKit Go.Proofs.YtfiffhcpgojkhaaDoorW.PrintWords Go.Proofs.YtfiffhcpgojkhaaDoorW.PrintLast Go.Proofs.YtfiffhcpgojkhaaDoorW.PrintMore Go.Proofs.YtfiffhcpgojkhaaDoor.DomF
set_option linter.unusedVariables false
set_option linter.unusedSimpArgs false
namespace DomA
/-- The list of what is done, turned about at both ends up to i. -/
def RL (D : List Int) (i : Nat) (L : List Int) : Prop := L.length = D.length ∧ ∀ q, q < D.length → L.getD q 0 = if q < i ∨ D.length - 1 - q < i then D.getD (D.length - 1 - q) 0 else D.getD q 0
theorem RL.zero (D : List Int) : RL D 0 D := ⟨rfl, fun q _ => by rw [if_neg (by omega)]⟩
theorem getD_set_ (L : List Int) (i q : Nat) (x : Int) (hi : i < L.length) : (L.set i x).getD q 0 = if q = i then x else L.getD q 0 := by
  by_cases h : q = i
  · subst h; simp [List.getD_eq_getElem?_getD, hi]
  · rw [if_neg h]; simp [List.getD_eq_getElem?_getD, List.getElem?_set, Ne.symm h]
theorem RL.step {D L : List Int} {i : Nat} (h : RL D i L) (hi : i < D.length - 1 - i) : RL D (i + 1) ((L.set i (L.getD (D.length - 1 - i) 0)).set (D.length - 1 - i) (L.getD i 0)) := by
  obtain ⟨hl, h⟩ := h
  refine ⟨by simpa using hl, fun q hq => ?_⟩
  rw [getD_set_ _ _ _ _ (by rw [List.length_set]; omega), getD_set_ _ _ _ _ (by omega)]
  have h1 := h i (by omega)
  have h2 := h (D.length - 1 - i) (by omega)
  have h3 := h q hq
  rw [if_neg (by omega)] at h1 h2
  by_cases e1 : q = D.length - 1 - i
  · rw [if_pos e1, if_pos (by omega), h1, e1]
    congr 1
    omega
  · rw [if_neg e1]
    by_cases e2 : q = i
    · subst e2
      rw [if_pos rfl, if_pos (by omega), h2]
    · rw [if_neg e2, h3]
      by_cases c : q < i ∨ D.length - 1 - q < i
      · rw [if_pos c, if_pos (by omega)]
      · rw [if_neg c, if_neg (by omega)]
theorem RL.done {D L : List Int} {i : Nat} (h : RL D i L) (hi : ¬ i < D.length - 1 - i) : L = D.reverse := by
  obtain ⟨hl, h⟩ := h
  apply List.ext_getElem (by simpa using hl)
  intro q hq hq2
  have h3 := h q (by omega)
  have e1 : L.getD q 0 = L[q] := by simp [List.getD_eq_getElem?_getD, hq]
  have hq3 : D.length - 1 - q < D.length := by omega
  have e2 : D.getD (D.length - 1 - q) 0 = D.reverse[q] := by simp [List.getD_eq_getElem?_getD, hq3]
  rw [← e1, ← e2, h3]
  by_cases c : q < i ∨ D.length - 1 - q < i
  · rw [if_pos c]
  · rw [if_neg c]
    congr 1
    omega
theorem os_start {w w3 : World} {bm bn rm cm n c0 : Nat} {A0 : Option Addr} (HB : Below w.heap.size w w3) (hbn : w3.heap[bn]? = some (.cells #[.slice A0 n c0] 22 (0, 0))) (hbm : w3.heap[bm]? = some (.cells #[.slice none 0 0] 38 (0, 0)))
    (hrm : Kd.R Kd.bool 4 w3 w.heap.size (fun _ => True) (.slice (some ⟨rm, 0, none⟩) n cm) (List.replicate n false)) (lo : w.heap.size ≤ bm) :
    OS w ⟨bm, bn, w3.heap.size + 1, w3.heap.size, rm, cm, A0, n, c0⟩ (List.replicate n false) [] (((w3.setCell ⟨bm, 0, none⟩ (.slice (some ⟨rm, 0, none⟩) n cm)).alloc (.cells #[.slice none 0 0] 26)).alloc
      (.cells #[.func (.func 28) #[] #[.pointer (some ⟨bm, 0, none⟩), .pointer (some ⟨bn, 0, none⟩), .pointer (some ⟨w3.heap.size + 1, 0, none⟩), .pointer (some ⟨w3.heap.size, 0, none⟩)]] 52)) := by
  have hs : (w3.setCell ⟨bm, 0, none⟩ (.slice (some ⟨rm, 0, none⟩) n cm)).heap.size = w3.heap.size := by simp [World.setCell]
  have k1 := blk_put hbm 0 (.slice (some ⟨rm, 0, none⟩) n cm) rfl
  have k2 := blk_far hbn (p := ⟨bm, 0, none⟩) (ne_of_type hbn hbm (by decide)) (.slice (some ⟨rm, 0, none⟩) n cm)
  have k3 : Kd.R Kd.bool 4 (w3.setCell ⟨bm, 0, none⟩ (.slice (some ⟨rm, 0, none⟩) n cm)) w.heap.size (fun _ => True) (.slice (some ⟨rm, 0, none⟩) n cm) (List.replicate n false) :=
    Kd.R_over' (v := .slice (some ⟨bm, 0, none⟩) 1 1) hrm (fun k hk => by cases hk; exact ⟨_, hbm⟩) (by decide) ⟨rfl, rfl, rfl, by simp [World.setCell], fun k _ hk => Below.heap_setCell _ _ _ k (fun e => hk (by rw [e]; rfl))⟩
  have k4 : Below w.heap.size w (w3.setCell ⟨bm, 0, none⟩ (.slice (some ⟨rm, 0, none⟩) n cm)) := below_set HB lo
  generalize (w3.setCell ⟨bm, 0, none⟩ (.slice (some ⟨rm, 0, none⟩) n cm)) = w4 at *
  rw [← hs]
  have n1 : (w4.alloc (.cells #[.slice none 0 0] 26)).heap[w4.heap.size]? = some (.cells #[.slice none 0 0] 26 (0, 0)) := blk_new w4 _
  have s1 : (w4.alloc (.cells #[.slice none 0 0] 26)).heap.size = w4.heap.size + 1 := Array.size_push _
  have b1 : Below w4.heap.size w4 (w4.alloc (.cells #[.slice none 0 0] 26)) := below_alloc (Below.refl _ _) _
  have j1 := blk_below k1 b1
  have j2 := blk_below k2 b1
  have j3 := Kd.R_alloc k3 (.cells #[.slice none 0 0] 26)
  have j4 := below_alloc k4 (.cells #[.slice none 0 0] 26)
  have hsz := below_size k4
  generalize (w4.alloc (.cells #[.slice none 0 0] 26)) = w5 at *
  rw [← s1]
  have b2 := fun o : Obj => (below_alloc (Below.refl w5.heap.size w5) o)
  exact ⟨below_alloc j4 _, blk_below j1 (b2 _), blk_below j2 (b2 _), blk_new w5 _, ⟨_, blk_below n1 (b2 _), Kd.R_nil _ _ _ _ _⟩, Kd.R_alloc j3 _, hsz⟩
end DomA
open DomA
def dom_Order.f (l0 : List (List Int)) : Option (List Int) := if l0.length ≤ 281474976710656 ∧ (l0.all fun l => decide (l.length < 4611686018427387904)) = true then (orderF l0).bind fun r => if r.length ≤ 17592186044416 then some r else none else none
set_option maxHeartbeats 8000000 in
set_option maxRecDepth 100000 in
theorem dom_Order.calls (A0 : Option Addr) (c0 : Nat) (l0 : List (List Int)) (r : List Int) (w : World) (hr0 : Kd.C (Kd.slice 3 (Kd.int .i64)) w A0 l0.length l0) (hc0 : l0.length ≤ c0) (h : dom_Order.f l0 = some r) :
    Calls Tryd.prog 16 #[.slice A0 l0.length c0] w fun e w' => ∃ v0_ : Value, e = .returned v0_ ∧ Kd.R (Kd.int .i64) 3 w' w.heap.size (fun _ => True) v0_ r ∧ Below w.heap.size w w' := by
  unfold dom_Order.f at h
  split at h
  rotate_left
  · cases h
  rename_i hg
  obtain ⟨hg1, hg2⟩ := hg
  obtain ⟨r', ho, h⟩ := Option.bind_eq_some_iff.mp h
  split at h
  rotate_left
  · cases h
  rename_i hg3
  obtain rfl := Option.some.inj h
  unfold orderF at ho
  by_cases hz : l0.length = 0
  · rw [if_pos hz] at ho
    obtain rfl := Option.some.inj ho
    have z0 : ((l0.length : Int) == 0) = true := beq_iff_eq.mpr (by omega)
    have z1 : (l0.length : Int) = 0 := by omega
    have HB := Aside0.mk (Below.refl w.heap.size w)
    clear ho h hg1 hg2 hg3
    go_enter Tryd.func16, Tryd.ntmps16
    go_wp2_with ((with_reducible refine gate_dst (N := 1) rfl ?_); refine box_event ?hg (N := 1) ?hd (cs := #[.slice A0 l0.length c0]) (t := 22) ?hr ?_; (case hd => rfl); (case hg => rfl); (case hr => first | (go_simp; done) | (go_simp; rfl)); intro gb hgb w1 hbox hb1; have f1 : w1.cell? ⟨gb, 0, none⟩ = some (.slice A0 l0.length c0) := (blk_cell hbox 0).trans rfl; have HB1 := Aside0.mk hb1; clear hbox hb1 hgb)
    go_ret
    exact ⟨_, rfl, Kd.R_nil _ _ _ _ _, HB1.out⟩
  · rw [if_neg hz] at ho
    obtain ⟨⟨M1, D1⟩, hq, ho⟩ := Option.map_eq_some_iff.mp ho
    subst ho
    have z0 : ((l0.length : Int) == 0) = false := beq_eq_false_iff_ne.mpr (by omega)
    have z1 : ¬ ((l0.length : Int) = 0) := by omega
    have z2 : decide (0 ≤ (l0.length : Int)) = true := decide_eq_true (by omega)
    have z3 : decide ((l0.length : Int).toNat ≤ 281474976710656) = true := decide_eq_true (by omega)
    have z4 : (0 ≤ (l0.length : Int)) = True := eq_true (by omega)
    have z5 : ((l0.length : Int).toNat ≤ 281474976710656) = True := eq_true (by omega)
    have hlen : ∀ i, (l0.getD i []).length < 4611686018427387904 := by
      intro i
      by_cases hi : i < l0.length
      · have := List.all_eq_true.mp hg2 (l0.getD i []) (by simp [List.getD_eq_getElem?_getD, hi])
        simpa using this
      · simp [List.getD_eq_getElem?_getD, hi]
    have hmf : ∀ (fn : Fn) (first cap : Array Value) (w : World), (Instr.makeFunc fn first cap).run Tryd.prog w = .ok (.func fn first cap) w := fun _ _ _ _ => rfl
    have HQ := Aside0.mk hq
    have HLEN := Aside0.mk hlen
    have HG1 := Aside0.mk hg1
    have HG3 := Aside0.mk hg3
    have HZ := Aside0.mk (Nat.pos_of_ne_zero hz)
    have HR0 := Aside0.mk hr0
    have HC0 := Aside0.mk hc0
    have HB := Aside0.mk (Below.refl w.heap.size w)
    clear hq hlen hg1 hg2 hg3 hz hr0 hc0 h
    go_enter Tryd.func16, Tryd.ntmps16
    go_wp2_with (first
      | ((with_reducible refine gate_dst (N := 1) rfl ?_); refine box_event ?hg (N := 1) ?hd (cs := #[.slice A0 l0.length c0]) (t := 22) ?hr ?_; (case hd => rfl); (case hg => rfl); (case hr => first | (go_simp; done) | (go_simp; rfl)); intro bn hbn w1 hbox hb1; have f1 : w1.cell? ⟨bn, 0, none⟩ = some (.slice A0 l0.length c0) := (blk_cell hbox 0).trans rfl; have BN := Aside0.mk hbox; have HB1 := Aside0.mk hb1; clear hbox hb1 hbn)
      | ((with_reducible refine gate_dst (N := 13) rfl ?_); refine Kd.R_make Kd.bool (w0 := w) w.heap.size 4 rfl (N := 13) rfl 38 _ _ rfl (l0.length : Int) rfl rfl Tryd.underlying38 (.bool false) 1 infoB rfl (by decide) (by omega) false (ok := fun _ => True) (okp := fun _ => True) rfl (fun _ hk => hk) trivial (by omega) (by have := HG1.out; omega) HB1.out (below_size HB1.out) ?_; intro v13 w2 ho7 hb2 hg2 hnew2; rw [Int.toNat_natCast] at ho7; obtain ⟨rm, cm, eo, _, _, _⟩ := Kd.R_form ho7 (by rw [List.length_replicate]; exact HZ.out); rw [List.length_replicate] at eo; subst eo; have RM2 := Aside0.mk ho7; have BN2 := Aside0.mk (blk_grown BN.out hg2 (by simp)); have HB2 := Aside0.mk hb2; clear ho7 hb2 hg2 hnew2)
      | ((with_reducible refine gate_dst (N := 3) rfl ?_); refine box_event ?hg (N := 3) ?hd (cs := #[.slice none 0 0]) (t := 38) ?hr ?_; (case hd => rfl); (case hg => rfl); (case hr => first | (go_simp; done) | (go_simp; rfl)); intro bm hbm w3 hbox hb3; have m1 : w3.cell? ⟨bm, 0, none⟩ = some (.slice none 0 0) := (blk_cell hbox 0).trans rfl; have m2 := blk_frozen hbox 0; have BM := Aside0.mk hbox; have BN3 := Aside0.mk (blk_below BN2.out hb3); have RM3 := Aside0.mk (Kd.R_below RM2.out hb3); have LO3 := Aside0.mk (show w.heap.size ≤ bm by rw [hbm]; exact below_size HB2.out); have HB3 := Aside0.mk (below_step HB2.out hb3); clear hbox hb3 hbm)
      | (go_at_call 28; refine (deep_calls w ⟨bm, bn, w3.heap.size + 1, w3.heap.size, rm, cm, A0, l0.length, c0⟩ l0 rfl HR0.out HC0.out HLEN.out l0.length 0 (List.replicate l0.length false) [] M1 D1 HZ.out (by simp) HQ.out (by have := HG3.out; simpa using this) _ (os_start HB3.out BN3.out BM.out RM3.out LO3.out)).mono ?_; rintro e w8 ⟨rfl, h8⟩; have H8 := Aside0.mk h8; have HB8 := Aside0.mk h8.below; obtain ⟨v8, hv8, hr8⟩ := h8.ho; have V8 := Aside0.mk hv8; have R8 := Aside0.mk hr8; have g8 : w8.cell? ⟨w3.heap.size, 0, none⟩ = some v8 := (blk_cell hv8 0).trans rfl; obtain ⟨A8, c8, e8⟩ := Kd.R_slice hr8; subst e8; clear h8 hv8 hr8))
    have hne : 0 < D1.length := Nat.lt_of_le_of_lt (Nat.zero_le _) (dfs_len l0 _ _ _ _ _ HQ.out).1
    have hDl : D1.length ≤ 17592186044416 := by have := HG3.out; simpa using this
    generalize w3.heap.size = bo at *
    go_quiet (fail)
    try go_wp2
    go_loopw [6, 7] (fun vi vk wr => ∃ (i k : Nat) (L : List Int), vi = .int .i64 (i : Int) ∧ vk = .int .i64 (k : Int) ∧ i + k + 1 = D1.length ∧ RL D1 i L ∧ Aside0 (wr.heap[bo]? = some (.cells #[.slice A8 D1.length c8] 26 (0, 0))) ∧ Aside0 (Kd.R (Kd.int .i64) 3 wr w.heap.size (fun _ => True) (.slice A8 D1.length c8) L) ∧ Aside0 (Below w.heap.size w wr)) (fun vi _ _ => D1.length - (intOf vi).toNat)
    case atStart => exact ⟨0, D1.length - 1, D1, rfl, by congr 1; omega, by omega, RL.zero D1, V8, R8, ⟨pw_below_drewN HB8.out _⟩⟩
    case round =>
      obtain ⟨i, k, L, rfl, rfl, hi, hRL, hV, hR, hB⟩ := hrel
      have hl : L.length = D1.length := hRL.1
      obtain ⟨g, c9, eo, gb, _, cs9, hcs⟩ := Kd.R_form hR.out (by omega)
      obtain ⟨e1, e2⟩ : A8 = some ⟨g, 0, none⟩ ∧ True := ⟨by injection eo, trivial⟩
      subst e1
      have hno : bo ≠ g := ne_of_type hV.out hcs (by decide)
      have hno2 : g ≠ bo := Ne.symm hno
      by_cases hc : i < k
      · have y0 : decide ((i : Int) < (k : Int)) = true := decide_eq_true (by omega)
        have hik : i ≠ k := by omega
        obtain ⟨a1, a2⟩ := Kd.R_celln (0 : Int) hR.out (i : Int) (by omega) (by omega)
        obtain ⟨b1, b2⟩ := Kd.R_celln (0 : Int) hR.out (k : Int) (by omega) (by omega)
        have v1 : wr.cell? ⟨bo, 0, none⟩ = some (.slice (some ⟨g, 0, none⟩) D1.length c8) := (blk_cell hV.out 0).trans rfl
        have q1 : 0 ≤ (i : Int) := by omega
        have q2 : (i : Int) < (D1.length : Int) := by omega
        have q3 : 0 ≤ (k : Int) := by omega
        have q4 : (k : Int) < (D1.length : Int) := by omega
        have q5 : i < D1.length := by omega
        have q6 : k < D1.length := by omega
        have HRL := Aside0.mk hRL
        clear hRL hcs eo
        rw [Int.toNat_natCast] at a1 a2 b1 b2
        have er1 : rdOf 0 L (i : Int) = L.getD i 0 := by simp [rdOf]
        have er2 : rdOf 0 L (k : Int) = L.getD k 0 := by simp [rdOf]
        rw [er1] at a1
        rw [er2] at b1
        generalize hx : L.getD i 0 = x at a1
        generalize hy : L.getD k 0 = y at b1
        have HX := Aside0.mk hx
        have HY := Aside0.mk hy
        clear hx hy er1 er2
        go_wp2
        refine start_ (n := 16) (ds := []) (S := fun w' => w'.cell? ⟨bo, 0, none⟩ = some (.slice (some ⟨g, 0, none⟩) D1.length c8)) #[false,false,false,false,false,false,false,false,false,false,false,false,false,false,false,false] (by kernel_rfl) rfl rfl v1 (fun hHeld => ?_)
        refine take_ (i := 0) (N := some 27) (v := ?_) (a' := ?_) #[true,false,false,false,false,false,false,false,false,false,false,false,false,false,false,false] rfl rfl (by kernel_rfl) (fun _ _ _ h => h) (Or.inl ⟨by rfl, ?_⟩) hHeld ?_ ?_
        rotate_left
        · rintro w' s0
          go_simp
          with_reducible rfl
        rotate_left
        · simp only [Act.put, List.setIfInBounds_toArray, List.set_cons_zero, List.set_cons_succ, i64_w, i32_w]
          rfl
        refine pure_ (i := 1) (N := some 28) (v := ?_) (a' := ?_) #[true,true,false,false,false,false,false,false,false,false,false,false,false,false,false,false] rfl rfl (by kernel_rfl) (fun _ _ _ h => h) (Or.inl ⟨by rfl, ?_⟩) ?_ ?_
        rotate_left
        · intro w'
          go_simp
          with_reducible rfl
        rotate_left
        · simp only [Act.put, List.setIfInBounds_toArray, List.set_cons_zero, List.set_cons_succ, i64_w, i32_w]
          rfl
        refine take_ (i := 2) (N := some 29) (v := ?_) (a' := ?_) #[true,true,true,false,false,false,false,false,false,false,false,false,false,false,false,false] rfl rfl (by kernel_rfl) (fun _ _ _ h => h) (Or.inl ⟨by rfl, ?_⟩) hHeld ?_ ?_
        rotate_left
        · rintro w' s0
          go_simp
          with_reducible rfl
        rotate_left
        · simp only [Act.put, List.setIfInBounds_toArray, List.set_cons_zero, List.set_cons_succ, i64_w, i32_w]
          rfl
        refine pure_ (i := 3) (N := some 30) (v := ?_) (a' := ?_) #[true,true,true,true,false,false,false,false,false,false,false,false,false,false,false,false] rfl rfl (by kernel_rfl) (fun _ _ _ h => h) (Or.inl ⟨by rfl, ?_⟩) ?_ ?_
        rotate_left
        · intro w'
          go_simp
          with_reducible rfl
        rotate_left
        · simp only [Act.put, List.setIfInBounds_toArray, List.set_cons_zero, List.set_cons_succ, i64_w, i32_w]
          rfl
        refine take_ (i := 4) (N := some 31) (v := ?_) (a' := ?_) #[true,true,true,true,true,false,false,false,false,false,false,false,false,false,false,false] rfl rfl (by kernel_rfl) (fun _ _ _ h => h) (Or.inl ⟨by rfl, ?_⟩) hHeld ?_ ?_
        rotate_left
        · rintro w' s0
          go_simp
          with_reducible rfl
        rotate_left
        · simp only [Act.put, List.setIfInBounds_toArray, List.set_cons_zero, List.set_cons_succ, i64_w, i32_w]
          rfl
        refine pure_ (i := 5) (N := some 32) (v := ?_) (a' := ?_) #[true,true,true,true,true,true,false,false,false,false,false,false,false,false,false,false] rfl rfl (by kernel_rfl) (fun _ _ _ h => h) (Or.inl ⟨by rfl, ?_⟩) ?_ ?_
        rotate_left
        · intro w'
          go_simp
          with_reducible rfl
        rotate_left
        · simp only [Act.put, List.setIfInBounds_toArray, List.set_cons_zero, List.set_cons_succ, i64_w, i32_w]
          rfl
        refine pure_ (i := 6) (N := some 33) (v := ?_) (a' := ?_) #[true,true,true,true,true,true,true,false,false,false,false,false,false,false,false,false] rfl rfl (by kernel_rfl) (fun _ _ _ h => h) (Or.inl ⟨by rfl, ?_⟩) ?_ ?_
        rotate_left
        · intro w'
          go_simp
          with_reducible rfl
        rotate_left
        · simp only [Act.put, List.setIfInBounds_toArray, List.set_cons_zero, List.set_cons_succ, i64_w, i32_w]
          rfl
        refine take_ (i := 8) (N := some 35) (v := ?_) (a' := ?_) #[true,true,true,true,true,true,true,false,true,false,false,false,false,false,false,false] rfl rfl (by kernel_rfl) (fun _ _ _ h => h) (Or.inl ⟨by rfl, ?_⟩) hHeld ?_ ?_
        rotate_left
        · rintro w' s0
          go_simp
          with_reducible rfl
        rotate_left
        · simp only [Act.put, List.setIfInBounds_toArray, List.set_cons_zero, List.set_cons_succ, i64_w, i32_w]
          rfl
        refine pure_ (i := 9) (N := some 36) (v := ?_) (a' := ?_) #[true,true,true,true,true,true,true,false,true,true,false,false,false,false,false,false] rfl rfl (by kernel_rfl) (fun _ _ _ h => h) (Or.inl ⟨by rfl, ?_⟩) ?_ ?_
        rotate_left
        · intro w'
          go_simp
          with_reducible rfl
        rotate_left
        · simp only [Act.put, List.setIfInBounds_toArray, List.set_cons_zero, List.set_cons_succ, i64_w, i32_w]
          rfl
        refine pure_ (i := 10) (N := some 37) (v := ?_) (a' := ?_) #[true,true,true,true,true,true,true,false,true,true,true,false,false,false,false,false] rfl rfl (by kernel_rfl) (fun _ _ _ h => h) (Or.inl ⟨by rfl, ?_⟩) ?_ ?_
        rotate_left
        · intro w'
          go_simp
          with_reducible rfl
        rotate_left
        · simp only [Act.put, List.setIfInBounds_toArray, List.set_cons_zero, List.set_cons_succ, i64_w, i32_w]
          rfl
        refine two_ (i := 7) (j := 11) (Ni := some 34) (Nj := some 38) #[true,true,true,true,true,true,true,true,true,true,true,false,false,false,false,false] #[true,true,true,true,true,true,true,false,true,true,true,true,false,false,false,false] rfl rfl rfl rfl (by kernel_rfl) (by decide) (by decide) (fun K hK => ?_) (fun K hK => ?_)
        · refine value_ (w1 := wr.drew) (v := .int .i64 y) (by rfl) rfl ?_ ?_
          · go_simp
            first | done | rfl
          refine hK.out _ _ v1 (fun hHeld => ?_)
          clear hK K
          refine norm_ (a' := ?_) ?_ ?_
          rotate_left
          · show Act.put _ (some 34) _ = _
            simp only [Act.put, List.setIfInBounds_toArray, List.set_cons_zero, List.set_cons_succ, i64_w, i32_w]
            rfl
          refine one_ (i := 11) (N := some 38) #[true,true,true,true,true,true,true,true,true,true,true,true,false,false,false,false] rfl rfl (by kernel_rfl) (by decide) (fun K hK => ?_)
          refine value_ (w1 := wr.drew) (v := .int .i64 x) (by rfl) rfl ?_ ?_
          · go_simp
            first | done | rfl
          refine hK.out _ _ v1 (fun hHeld => ?_)
          clear hK K
          refine norm_ (a' := ?_) ?_ ?_
          rotate_left
          · show Act.put _ (some 38) _ = _
            simp only [Act.put, List.setIfInBounds_toArray, List.set_cons_zero, List.set_cons_succ, i64_w, i32_w]
            rfl
          refine pure_ (i := 12) (N := some 39) (v := ?_) (a' := ?_) #[true,true,true,true,true,true,true,true,true,true,true,true,true,false,false,false] rfl rfl (by kernel_rfl) (fun _ _ _ h => h) (Or.inl ⟨by rfl, ?_⟩) ?_ ?_
          rotate_left
          · intro w'
            go_simp
            with_reducible rfl
          rotate_left
          · simp only [Act.put, List.setIfInBounds_toArray, List.set_cons_zero, List.set_cons_succ, i64_w, i32_w]
            rfl
          refine one_ (i := 13) (N := none) #[true,true,true,true,true,true,true,true,true,true,true,true,true,true,false,false] rfl rfl (by kernel_rfl) (by decide) (fun K hK => ?_)
          refine skip_ (w1 := (wr.setCell ⟨g, i, none⟩ (.int .i64 y)).drew) (by rfl) rfl ?_ ?_
          · go_simp
            first | done | rfl
          refine hK.out _ _ ((blk_cell (blk_far hV.out hno _) 0).trans rfl) (fun hHeld => ?_)
          clear hK K
          refine pure_ (i := 14) (N := some 40) (v := ?_) (a' := ?_) #[true,true,true,true,true,true,true,true,true,true,true,true,true,true,true,false] rfl rfl (by kernel_rfl) (fun _ _ _ h => h) (Or.inl ⟨by rfl, ?_⟩) ?_ ?_
          rotate_left
          · intro w'
            go_simp
            with_reducible rfl
          rotate_left
          · simp only [Act.put, List.setIfInBounds_toArray, List.set_cons_zero, List.set_cons_succ, i64_w, i32_w]
            rfl
          refine one_ (i := 15) (N := none) #[true,true,true,true,true,true,true,true,true,true,true,true,true,true,true,true] rfl rfl (by kernel_rfl) (by decide) (fun K hK => ?_)
          refine skip_ (w1 := ((wr.setCell ⟨g, i, none⟩ (.int .i64 y)).setCell ⟨g, k, none⟩ (.int .i64 x)).drew) (by rfl) rfl ?_ ?_
          · go_simp
            first | done | rfl
          refine hK.out _ _ ((blk_cell (blk_far (blk_far hV.out hno _) hno _) 0).trans rfl) (fun hHeld => ?_)
          clear hK K
          refine done_ (by kernel_rfl) ?_
          all_goals go_wp2
          all_goals go_roundw
          case measure => simp [intOf]; omega
          all_goals
            refine ⟨i + 1, k - 1, (L.set i y).set k x, by go_num, by congr 1; omega, by omega, ?_, ⟨blk_far (blk_far hV.out hno _) hno _⟩, ⟨?_⟩, ⟨below_drew1 (below_set (below_set hB.out gb) gb)⟩⟩
            · have h9 := HRL.out.step (by omega)
              rw [show D1.length - 1 - i = k by omega, HX.out, HY.out] at h9
              exact h9
            · have h9 := (Kd.R_putg (Kd.R_putg hR.out (i : Int) y).1 (k : Int) x).1
              rw [Int.toNat_natCast, Int.toNat_natCast] at h9
              exact h9
        · refine value_ (w1 := wr.drew) (v := .int .i64 x) (by rfl) rfl ?_ ?_
          · go_simp
            first | done | rfl
          refine hK.out _ _ v1 (fun hHeld => ?_)
          clear hK K
          refine norm_ (a' := ?_) ?_ ?_
          rotate_left
          · show Act.put _ (some 38) _ = _
            simp only [Act.put, List.setIfInBounds_toArray, List.set_cons_zero, List.set_cons_succ, i64_w, i32_w]
            rfl
          refine one_ (i := 7) (N := some 34) #[true,true,true,true,true,true,true,true,true,true,true,true,false,false,false,false] rfl rfl (by kernel_rfl) (by decide) (fun K hK => ?_)
          refine value_ (w1 := wr.drew) (v := .int .i64 y) (by rfl) rfl ?_ ?_
          · go_simp
            first | done | rfl
          refine hK.out _ _ v1 (fun hHeld => ?_)
          clear hK K
          refine norm_ (a' := ?_) ?_ ?_
          rotate_left
          · show Act.put _ (some 34) _ = _
            simp only [Act.put, List.setIfInBounds_toArray, List.set_cons_zero, List.set_cons_succ, i64_w, i32_w]
            rfl
          refine pure_ (i := 12) (N := some 39) (v := ?_) (a' := ?_) #[true,true,true,true,true,true,true,true,true,true,true,true,true,false,false,false] rfl rfl (by kernel_rfl) (fun _ _ _ h => h) (Or.inl ⟨by rfl, ?_⟩) ?_ ?_
          rotate_left
          · intro w'
            go_simp
            with_reducible rfl
          rotate_left
          · simp only [Act.put, List.setIfInBounds_toArray, List.set_cons_zero, List.set_cons_succ, i64_w, i32_w]
            rfl
          refine one_ (i := 13) (N := none) #[true,true,true,true,true,true,true,true,true,true,true,true,true,true,false,false] rfl rfl (by kernel_rfl) (by decide) (fun K hK => ?_)
          refine skip_ (w1 := (wr.setCell ⟨g, i, none⟩ (.int .i64 y)).drew) (by rfl) rfl ?_ ?_
          · go_simp
            first | done | rfl
          refine hK.out _ _ ((blk_cell (blk_far hV.out hno _) 0).trans rfl) (fun hHeld => ?_)
          clear hK K
          refine pure_ (i := 14) (N := some 40) (v := ?_) (a' := ?_) #[true,true,true,true,true,true,true,true,true,true,true,true,true,true,true,false] rfl rfl (by kernel_rfl) (fun _ _ _ h => h) (Or.inl ⟨by rfl, ?_⟩) ?_ ?_
          rotate_left
          · intro w'
            go_simp
            with_reducible rfl
          rotate_left
          · simp only [Act.put, List.setIfInBounds_toArray, List.set_cons_zero, List.set_cons_succ, i64_w, i32_w]
            rfl
          refine one_ (i := 15) (N := none) #[true,true,true,true,true,true,true,true,true,true,true,true,true,true,true,true] rfl rfl (by kernel_rfl) (by decide) (fun K hK => ?_)
          refine skip_ (w1 := ((wr.setCell ⟨g, i, none⟩ (.int .i64 y)).setCell ⟨g, k, none⟩ (.int .i64 x)).drew) (by rfl) rfl ?_ ?_
          · go_simp
            first | done | rfl
          refine hK.out _ _ ((blk_cell (blk_far (blk_far hV.out hno _) hno _) 0).trans rfl) (fun hHeld => ?_)
          clear hK K
          refine done_ (by kernel_rfl) ?_
          all_goals go_wp2
          all_goals go_roundw
          case measure => simp [intOf]; omega
          all_goals
            refine ⟨i + 1, k - 1, (L.set i y).set k x, by go_num, by congr 1; omega, by omega, ?_, ⟨blk_far (blk_far hV.out hno _) hno _⟩, ⟨?_⟩, ⟨below_drew1 (below_set (below_set hB.out gb) gb)⟩⟩
            · have h9 := HRL.out.step (by omega)
              rw [show D1.length - 1 - i = k by omega, HX.out, HY.out] at h9
              exact h9
            · have h9 := (Kd.R_putg (Kd.R_putg hR.out (i : Int) y).1 (k : Int) x).1
              rw [Int.toNat_natCast, Int.toNat_natCast] at h9
              exact h9
      · have e : L = D1.reverse := hRL.done (by omega)
        have y0 : decide ((i : Int) < (k : Int)) = false := decide_eq_false (by omega)
        have v1 : wr.cell? ⟨bo, 0, none⟩ = some (.slice (some ⟨g, 0, none⟩) D1.length c8) := (blk_cell hV.out 0).trans rfl
        subst e
        clear eo hcs
        go_wp2
        go_ret
        exact ⟨_, rfl, hR.out, hB.out⟩
end Go.Proofs.YtfiffhcpgojkhaaDoor
/- dom.Idom's closure by hand: where two chains meet. No condition. -/
namespace Go.Proofs.YtfiffhcpgojkhaaDoor
open Go.RowKit Go.Proofs.YtfiffhcpgojkhaaDoorW.PrintWords Go.Proofs.YtfiffhcpgojkhaaDoorW.PrintLast Go.Proofs.YtfiffhcpgojkhaaDoorW.PrintMore Go.Proofs.YtfiffhcpgojkhaaDoor.DomF
set_option linter.unusedVariables false
set_option linter.unusedSimpArgs false
namespace DomA
def meetF (T D : List Int) : Nat → Int → Int → Option Int
  | 0, _, _ => none
  | k + 1, a, b => if a = b then some a else if 0 ≤ a ∧ a < (T.length : Int) ∧ 0 ≤ b ∧ b < (T.length : Int) ∧ a < (D.length : Int) ∧ b < (D.length : Int) then (if rd T a > rd T b then meetF T D k (rd D a) b else meetF T D k a (rd D b)) else none
theorem rdOf_rd (L : List Int) (i : Int) : rdOf 0 L i = rd L i := rfl
set_option maxHeartbeats 8000000 in
set_option maxRecDepth 100000 in
theorem meet_calls (T D : List Int) (ba bi ra ri ca ci n base : Nat) (okT okD : Nat → Prop) : ∀ (K : Nat) (a b m : Int) (W : World), meetF T D K a b = some m → T.length = n → D.length = n →
    W.heap[ba]? = some (.cells #[.slice (some ⟨ra, 0, none⟩) n ca] 26 (0, 0)) → W.heap[bi]? = some (.cells #[.slice (some ⟨ri, 0, none⟩) n ci] 26 (0, 0)) →
    Kd.R (Kd.int .i64) 3 W base okT (.slice (some ⟨ra, 0, none⟩) n ca) T → Kd.R (Kd.int .i64) 3 W base okD (.slice (some ⟨ri, 0, none⟩) n ci) D →
    Calls Tryd.prog 27 #[.int .i64 a, .int .i64 b, .pointer (some ⟨ba, 0, none⟩), .pointer (some ⟨bi, 0, none⟩)] W fun e w' => e = .returned (.int .i64 m) ∧ Drawn0 W w' := by
  intro K a b m W h hT hD h1 h2 h3 h4
  have HH := Aside0.mk h
  have H1 := Aside0.mk h1
  have H2 := Aside0.mk h2
  have H3 := Aside0.mk h3
  have H4 := Aside0.mk h4
  clear h h1 h2 h3 h4
  go_enter Tryd.func27, Tryd.ntmps27
  go_wp2
  go_loopg [0, 1] K (fun kq va vb w' => ∃ (a' b' : Int) (q : Nat), va = .int .i64 a' ∧ vb = .int .i64 b' ∧ Aside0 (meetF T D kq a' b' = some m) ∧ w' = W.drewN q)
  case atStart => exact ⟨a, b, 0, rfl, rfl, HH, rfl⟩
  case round =>
    obtain ⟨a', b', q, rfl, rfl, HQ, rfl⟩ := hrel
    cases gk with
    | zero => exact absurd HQ.out (by simp [meetF])
    | succ k1 =>
      have hq := HQ.out
      simp only [meetF] at hq
      by_cases c0 : a' = b'
      · rw [if_pos c0] at hq
        obtain rfl := Option.some.inj hq
        have y0 : (a' != b') = false := bne_eq_false_iff_eq.mpr c0
        have y1 : (a' == b') = true := beq_iff_eq.mpr c0
        clear hq HQ
        go_wp2
        go_ret
        exact ⟨rfl, ⟨_, rfl⟩⟩
      · rw [if_neg c0] at hq
        have y0 : (a' != b') = true := bne_iff_ne.mpr c0
        have y1 : (a' == b') = false := beq_eq_false_iff_ne.mpr c0
        split at hq
        rotate_left
        · cases hq
        rename_i hr
        obtain ⟨r1, r2, r3, r4, r5, r6⟩ := hr
        obtain ⟨p1, _⟩ := Kd.R_celln (0 : Int) H3.out a' r1 (by omega)
        obtain ⟨p2, _⟩ := Kd.R_celln (0 : Int) H3.out b' r3 (by omega)
        obtain ⟨p3, _⟩ := Kd.R_celln (0 : Int) H4.out a' r1 (by omega)
        obtain ⟨p4, _⟩ := Kd.R_celln (0 : Int) H4.out b' r3 (by omega)
        rw [rdOf_rd] at p1 p2 p3 p4
        have v1 : W.cell? ⟨ba, 0, none⟩ = some (.slice (some ⟨ra, 0, none⟩) n ca) := (blk_cell H1.out 0).trans rfl
        have v2 : W.cell? ⟨bi, 0, none⟩ = some (.slice (some ⟨ri, 0, none⟩) n ci) := (blk_cell H2.out 0).trans rfl
        have s1 : (0 ≤ a') = True := eq_true r1
        have s2 : (a' < (n : Int)) = True := eq_true (by omega)
        have s3 : (0 ≤ b') = True := eq_true r3
        have s4 : (b' < (n : Int)) = True := eq_true (by omega)
        clear r1 r2 r3 r4 r5 r6 c0
        generalize rd T a' = ta at *
        generalize rd T b' = tb at *
        generalize rd D a' = da at *
        generalize rd D b' = db at *
        by_cases c1 : ta > tb
        · rw [if_pos c1] at hq
          have z1 : decide (ta > tb) = true := decide_eq_true c1
          have z2 : decide (tb < ta) = true := decide_eq_true c1
          have HQ' := Aside0.mk hq
          clear hq HQ c1
          go_wp2
          repeat (go_quiet (fail); try go_wp2)
          go_roundg k1
          case measure => omega
          case rel => exact ⟨da, b', _, rfl, rfl, HQ', rfl⟩
        · rw [if_neg c1] at hq
          have z1 : decide (ta > tb) = false := decide_eq_false c1
          have z2 : decide (tb < ta) = false := decide_eq_false c1
          have HQ' := Aside0.mk hq
          clear hq HQ c1
          go_wp2
          repeat (go_quiet (fail); try go_wp2)
          go_roundg k1
          case measure => omega
          case rel => exact ⟨a', db, _, rfl, rfl, HQ', rfl⟩
end DomA
end Go.Proofs.YtfiffhcpgojkhaaDoor
/- What dom.Idom computes, in plain words; the world while it runs. No condition. -/
namespace Go.Proofs.YtfiffhcpgojkhaaDoor
open Go.RowKit Go.Proofs.YtfiffhcpgojkhaaDoorW.PrintWords Go.Proofs.YtfiffhcpgojkhaaDoorW.PrintLast Go.Proofs.YtfiffhcpgojkhaaDoorW.PrintMore Go.Proofs.YtfiffhcpgojkhaaDoor.DomF
set_option linter.unusedVariables false
set_option linter.unusedSimpArgs false
namespace DomA
def innerP (n : Nat) (i : Int) : List Int → List (List Int) → Option (List (List Int))
  | [], P => some P
  | c :: cs, P => if 0 ≤ c ∧ c < (n : Int) then (if (rdL P c).length < 17592186044416 then innerP n i cs (P.set c.toNat (rdL P c ++ [i])) else none) else innerP n i cs P
def outerP (next : List (List Int)) : List Int → Nat → List Int → List (List Int) → Option (List Int × List (List Int))
  | [], _, T, P => some (T, P)
  | i :: is, m, T, P => if 0 ≤ i ∧ i < (next.length : Int) then (innerP next.length i (rdL next i) P).bind fun P' => outerP next is (m + 1) (T.set i.toNat (m : Int)) P' else none
def bestF (K : Nat) (T D : List Int) : List Int → Int → Option Int
  | [], b => some b
  | p :: ps, b => if 0 ≤ p ∧ p < (D.length : Int) then (if rd D p < 0 then bestF K T D ps b else if b < 0 then bestF K T D ps p else (meetF T D K b p).bind fun m => bestF K T D ps m) else none
def passF (K : Nat) (T : List Int) (P : List (List Int)) : List Int → List Int → Bool → Option (List Int × Bool)
  | [], D, more => some (D, more)
  | i :: is, D, more => if 0 ≤ i ∧ i < (D.length : Int) ∧ (rdL P i).length < 4611686018427387904 then (bestF K T D (rdL P i) (-1)).bind fun b => if b = rd D i then passF K T P is D more else passF K T P is (D.set i.toNat b) true else none
def roundsF (K : Nat) (T : List Int) (P : List (List Int)) (ord : List Int) : Nat → List Int → Option (List Int)
  | 0, _ => none
  | r + 1, D => (passF K T P ord D false).bind fun p => if p.2 = true then roundsF K T P ord r p.1 else some p.1
def idomF (K : Nat) (next : List (List Int)) (ord : List Int) : Option (List Int) :=
  if ord.length = 0 then some (List.replicate next.length (-1)) else
  (outerP next ord 0 (List.replicate next.length (-1)) (List.replicate next.length [])).bind fun TP => (roundsF K TP.1 TP.2 ord.tail K ((List.replicate next.length (-1)).set 0 0)).map fun D => D.set 0 (-1)
/-- The numbers of blocks and what stands in line. -/
structure Ix where
  bt : Nat
  bi : Nat
  A1 : Option Addr
  A2 : Option Addr
  c1 : Nat
  c2 : Nat
  n : Nat
  ov : Value
  s1 : Nat
  s2 : Nat
  s3 : Nat
/-- The world while nearest dominators are found. -/
structure DI (w0 : World) (x : Ix) (T D ord : List Int) (W : World) : Prop where
  below : Below w0.heap.size w0 W
  ht : W.heap[x.bt]? = some (.cells #[.slice x.A1 x.n x.c1] 26 (0, 0))
  hd : W.heap[x.bi]? = some (.cells #[.slice x.A2 x.n x.c2] 26 (0, 0))
  rt : Kd.R (Kd.int .i64) 3 W w0.heap.size (fun k => x.s1 ≤ k ∧ k < x.s2) (.slice x.A1 x.n x.c1) T
  rd : Kd.R (Kd.int .i64) 3 W w0.heap.size (fun k => x.s2 ≤ k ∧ k < x.s3) (.slice x.A2 x.n x.c2) D
  ro : Kd.R (Kd.int .i64) 3 W w0.heap.size (fun k => k < x.s1) x.ov ord
  lt : x.bt < x.s3
  li : x.bi < x.s3
  l0 : w0.heap.size ≤ x.s1
  l1 : x.s1 ≤ x.s2
  l2 : x.s2 ≤ x.s3
  sz : x.s3 ≤ W.heap.size
theorem DI.drewN {w0 : World} {x : Ix} {T D ord : List Int} {W : World} (h : DI w0 x T D ord W) (m : Nat) : DI w0 x T D ord (W.drewN m) := by
  obtain ⟨h1, h2, h3, h4, h5, h6, h7, h8, h9, h10, h11, h12⟩ := h
  exact ⟨pw_below_drewN h1 _, h2, h3, Kd.R_drewN h4 _, Kd.R_drewN h5 _, Kd.R_drewN h6 _, h7, h8, h9, h10, h11, h12⟩
theorem DI.drew {w0 : World} {x : Ix} {T D ord : List Int} {W : World} (h : DI w0 x T D ord W) : DI w0 x T D ord W.drew := by
  obtain ⟨h1, h2, h3, h4, h5, h6, h7, h8, h9, h10, h11, h12⟩ := h
  exact ⟨below_drew1 h1, h2, h3, Kd.R_drew h4, Kd.R_drew h5, Kd.R_drew h6, h7, h8, h9, h10, h11, h12⟩
theorem DI.other {w0 : World} {x : Ix} {T D ord : List Int} {W W2 : World} (h : DI w0 x T D ord W) {row : Option Nat} (hg : W.grownBy W2 row) (hr : ∀ k, row = some k → x.s3 ≤ k) (hb : Below w0.heap.size w0 W2) : DI w0 x T D ord W2 := by
  obtain ⟨h1, h2, h3, h4, h5, h6, h7, h8, h9, h10, h11, h12⟩ := h
  refine ⟨hb, blk_grown h2 hg ?_, blk_grown h3 hg ?_, Kd.R_grown h4 hg ?_, Kd.R_grown h5 hg ?_, Kd.R_grown h6 hg ?_, h7, h8, h9, h10, h11, Nat.le_trans h12 hg.size⟩
  · intro e; have := hr _ e.symm; omega
  · intro e; have := hr _ e.symm; omega
  · intro k hk e; have := hr _ e.symm; omega
  · intro k hk e; have := hr _ e.symm; omega
  · intro k hk e; have := hr _ e.symm; omega
theorem DI.T {w0 : World} {x : Ix} {T D ord : List Int} {W : World} (h : DI w0 x T D ord W) (i : Int) (h0 : 0 ≤ i) (h1 : i < (x.n : Int)) :
    ∃ g, x.A1 = some ⟨g, 0, none⟩ ∧ g ≠ x.bt ∧ g ≠ x.bi ∧ g < x.s3 ∧ W.cell? ⟨g, i.toNat, none⟩ = some (.int .i64 (Go.Proofs.YtfiffhcpgojkhaaDoorW.PrintWords.rd T i)) ∧ W.frozen? ⟨g, i.toNat, none⟩ = false ∧ ∀ v, DI w0 x (T.set i.toNat v) D ord (W.setCell ⟨g, i.toNat, none⟩ (.int .i64 v)) ∧ W.grownBy (W.setCell ⟨g, i.toNat, none⟩ (.int .i64 v)) (some g) := by
  have hl := (Kd.R_reads' h.rt).1
  obtain ⟨g, cap, eo, gb, gl, cs, hc⟩ := Kd.R_form h.rt (by omega)
  have eA : x.A1 = some ⟨g, 0, none⟩ := by injection eo
  have hk := h.rt.1 g (by rw [eA]; rfl)
  have h4 := h.rt
  rw [eA] at h4
  obtain ⟨c1, c2⟩ := Kd.R_celln (0 : Int) h4 i h0 h1
  refine ⟨g, eA, (ne_of_type h.ht hc (by decide)).symm, (ne_of_type h.hd hc (by decide)).symm, by have := h.l2; omega, c1, c2, fun v => ?_⟩
  obtain ⟨hp, hg⟩ := Kd.R_putg h4 i v
  refine ⟨⟨below_set h.below gb, blk_grown h.ht hg ?_, blk_grown h.hd hg ?_, ?_, Kd.R_grown h.rd hg ?_, Kd.R_grown h.ro hg ?_, h.lt, h.li, h.l0, h.l1, h.l2, Nat.le_trans h.sz hg.size⟩, hg⟩
  · intro e; injection e with e; exact ne_of_type h.ht hc (by decide) e
  · intro e; injection e with e; exact ne_of_type h.hd hc (by decide) e
  · rw [eA]; exact hp
  · intro k hk2 e; injection e with e; omega
  · intro k hk2 e; injection e with e; omega
theorem DI.D {w0 : World} {x : Ix} {T D ord : List Int} {W : World} (h : DI w0 x T D ord W) (i : Int) (h0 : 0 ≤ i) (h1 : i < (x.n : Int)) :
    ∃ g, x.A2 = some ⟨g, 0, none⟩ ∧ g ≠ x.bt ∧ g ≠ x.bi ∧ g < x.s3 ∧ W.cell? ⟨g, i.toNat, none⟩ = some (.int .i64 (Go.Proofs.YtfiffhcpgojkhaaDoorW.PrintWords.rd D i)) ∧ W.frozen? ⟨g, i.toNat, none⟩ = false ∧ ∀ v, DI w0 x T (D.set i.toNat v) ord (W.setCell ⟨g, i.toNat, none⟩ (.int .i64 v)) ∧ W.grownBy (W.setCell ⟨g, i.toNat, none⟩ (.int .i64 v)) (some g) := by
  have hl := (Kd.R_reads' h.rd).1
  obtain ⟨g, cap, eo, gb, gl, cs, hc⟩ := Kd.R_form h.rd (by omega)
  have eA : x.A2 = some ⟨g, 0, none⟩ := by injection eo
  have hk := h.rd.1 g (by rw [eA]; rfl)
  have h4 := h.rd
  rw [eA] at h4
  obtain ⟨c1, c2⟩ := Kd.R_celln (0 : Int) h4 i h0 h1
  refine ⟨g, eA, (ne_of_type h.ht hc (by decide)).symm, (ne_of_type h.hd hc (by decide)).symm, by omega, c1, c2, fun v => ?_⟩
  obtain ⟨hp, hg⟩ := Kd.R_putg h4 i v
  refine ⟨⟨below_set h.below gb, blk_grown h.ht hg ?_, blk_grown h.hd hg ?_, Kd.R_grown h.rt hg ?_, ?_, Kd.R_grown h.ro hg ?_, h.lt, h.li, h.l0, h.l1, h.l2, Nat.le_trans h.sz hg.size⟩, hg⟩
  · intro e; injection e with e; exact ne_of_type h.ht hc (by decide) e
  · intro e; injection e with e; exact ne_of_type h.hd hc (by decide) e
  · intro k hk2 e; injection e with e; omega
  · rw [eA]; exact hp
  · intro k hk2 e; injection e with e; have := h.l1; omega
theorem DI.ne {w0 : World} {x : Ix} {T D ord : List Int} {W : World} (h : DI w0 x T D ord W) {g g' : Nat} (h1 : x.A1 = some ⟨g, 0, none⟩) (h2 : x.A2 = some ⟨g', 0, none⟩) : g ≠ g' := by
  have a := h.rt.1 g (by rw [h1]; rfl)
  have b := h.rd.1 g' (by rw [h2]; rfl)
  omega
theorem DI.O {w0 : World} {x : Ix} {T D ord : List Int} {W : World} (h : DI w0 x T D ord W) (i : Int) (h0 : 0 ≤ i) (h1 : i < (ord.length : Int)) : ∃ ad c, x.ov = .slice (some ad) ord.length c ∧ ord.length ≤ c ∧ W.cell? (ad.add i.toNat) = some (.int .i64 (Go.Proofs.YtfiffhcpgojkhaaDoorW.PrintWords.rd ord i)) := by
  obtain ⟨A, c, e, hc, hC⟩ := Kd.R_reads h.ro
  obtain ⟨ad, e2, hx⟩ := Kd.at_int hC i h0 h1
  exact ⟨ad, c, by rw [e, e2], hc, hx⟩
theorem repl_of {L : List Int} {n : Nat} (hl : L.length = n) (h : ∀ q, q < n → L.getD q 0 = -1) : L = List.replicate n (-1) := by
  apply List.ext_getElem (by simpa using hl)
  intro q h1 h2
  have := h q (by omega)
  simpa [List.getD_eq_getElem?_getD, h1] using this
/-- The parts of the answer. -/
theorem idomF_parts {K : Nat} {next : List (List Int)} {ord r : List Int} (h : idomF K next ord = some r) : ∃ T1 P1, outerP next ord 0 (List.replicate next.length (-1)) (List.replicate next.length []) = some (T1, P1) ∧
    (ord.length = 0 ∧ r = List.replicate next.length (-1) ∨ ord.length ≠ 0 ∧ ∃ Df, roundsF K T1 P1 ord.tail K ((List.replicate next.length (-1)).set 0 0) = some Df ∧ r = Df.set 0 (-1)) := by
  unfold idomF at h
  split at h
  · rename_i h0
    have e : ord = [] := List.eq_nil_of_length_eq_zero h0
    subst e
    exact ⟨_, _, rfl, Or.inl ⟨rfl, (Option.some.inj h).symm⟩⟩
  · rename_i h0
    obtain ⟨⟨T1, P1⟩, h1, h⟩ := Option.bind_eq_some_iff.mp h
    obtain ⟨Df, h2, h⟩ := Option.map_eq_some_iff.mp h
    exact ⟨T1, P1, h1, Or.inr ⟨h0, Df, h2, h.symm⟩⟩
/-- The row of rows of places ahead. -/
def PS (w0 : World) (s : Nat) (A : Option Addr) (n c : Nat) (P : List (List Int)) (W : World) : Prop := Kd.S (Kd.slice 3 (Kd.int .i64)) 26 W w0.heap.size (fun k => s ≤ k) (.slice A n c) P
/-- An element of it, and what it is behind an append to it that is stored. -/
theorem PS.elem {w0 : World} {s : Nat} {A : Option Addr} {n c : Nat} {P : List (List Int)} {W : World} (h : PS w0 s A n c P W) (i : Int) (h0 : 0 ≤ i) (h1 : i < (n : Int)) :
    ∃ (g : Nat) (A0 : Option Addr) (c0 : Nat) (oki : Nat → Prop), A = some ⟨g, 0, none⟩ ∧ s ≤ g ∧ w0.heap.size ≤ g ∧ W.cell? ⟨g, i.toNat, none⟩ = some (.slice A0 (rdL P i).length c0) ∧ (Kd.R (Kd.int .i64) 3 W w0.heap.size oki (.slice A0 (rdL P i).length c0) (rdL P i)) ∧ (∀ k, oki k → s ≤ k) ∧
      ∀ w1 v1 xs, Kd.R (Kd.int .i64) 3 w1 w0.heap.size (fun k => oki k ∨ s ≤ k ∧ W.heap.size ≤ k) v1 xs → W.grownBy w1 (Value.slice A0 (rdL P i).length c0).ownBlock → (∃ u, w1.cell? ⟨g, i.toNat, none⟩ = some u) ∧ w1.frozen? ⟨g, i.toNat, none⟩ = false ∧ PS w0 s A n c (P.set i.toNat xs) (w1.setCell ⟨g, i.toNat, none⟩ v1) ∧ w1.grownBy (w1.setCell ⟨g, i.toNat, none⟩ v1) (some g) := by
  have hl := (Kd.S_reads' h).1
  obtain ⟨g, cap, eo, gb, gl, cs, hc⟩ := Kd.S_form h (by omega)
  have eA : A = some ⟨g, 0, none⟩ := by injection eo
  subst eA
  have hg0 : s ≤ g := (Kd.S_R h).1 g rfl
  obtain ⟨oki, ce, hcl, hM, hcc, _, hoki, hH⟩ := Kd.S_elem h [] i h0 h1
  obtain ⟨ve, rfl, ge⟩ := hM
  have hv := hcc 0 _ rfl
  simp only [Nat.add_zero, show ((Kd.slice 3 (Kd.int .i64))).sz = 1 from rfl, Nat.mul_one] at hv
  obtain ⟨A0, c0, e0⟩ := Kd.R_slice ge
  subst e0
  refine ⟨g, A0, c0, oki, rfl, hg0, gb, hv, ge, fun k hk => (hoki k hk).1, fun w1 v1 xs hr hg => ?_⟩
  have hH1 := Kd.H_grown (Kd.H_widen hH) hg (fun k_ e_ => .inl (ge.1 k_ e_))
  obtain ⟨_, _, hraw, _, _, hcc2, _⟩ := Kd.H_raw hH1 h0 h1
  obtain ⟨_, hfr⟩ := Kd.H_at hH1 h0 h1
  have hx := hcc2 0 _ rfl
  have hf := hfr 0
  have HP := Kd.S_seg0 hH1 h0 h1 (seg := [v1]) (j := 0) (show 1 ≤ 1 from by decide) (x' := xs) (Kd.M_row hr) (fun _ hk => hk)
  simp only [Nat.add_zero, show ((Kd.slice 3 (Kd.int .i64))).sz = 1 from rfl, Nat.mul_one] at hx hf HP
  exact ⟨⟨_, hx⟩, hf, HP.1, HP.2⟩
theorem PS.grown {w0 : World} {s : Nat} {A : Option Addr} {n c : Nat} {P : List (List Int)} {W W2 : World} (h : PS w0 s A n c P W) {row : Option Nat} (hg : W.grownBy W2 row) (hr : ∀ k, row = some k → k < s) : PS w0 s A n c P W2 :=
  Kd.S_grown h hg fun k hk e => by have := hr k e.symm; omega
theorem PS.drewN {w0 : World} {s : Nat} {A : Option Addr} {n c : Nat} {P : List (List Int)} {W : World} (h : PS w0 s A n c P W) (m : Nat) : PS w0 s A n c P (W.drewN m) := Kd.S_drewN h m
theorem PS.drew {w0 : World} {s : Nat} {A : Option Addr} {n c : Nat} {P : List (List Int)} {W : World} (h : PS w0 s A n c P W) : PS w0 s A n c P W.drew := Kd.S_drew h
end DomA
end Go.Proofs.YtfiffhcpgojkhaaDoor
/- dom.Idom by hand. No condition. -/
namespace Go.Proofs.YtfiffhcpgojkhaaDoor
open Go.RowKit Go.Proofs.YtfiffhcpgojkhaaDoorW.PrintWords Go.Proofs.YtfiffhcpgojkhaaDoorW.PrintLast Go.Proofs.YtfiffhcpgojkhaaDoorW.PrintMore Go.Proofs.YtfiffhcpgojkhaaDoor.DomF DomA
set_option linter.unusedVariables false
set_option linter.unusedSimpArgs false
def dom_Idom.f (k : Nat) (l0 : List (List Int)) : Option (List Int) := if l0.length ≤ 11728124029610 then (dom_Order.f l0).bind fun ord => idomF k l0 ord else none
/-- A flag as a number. -/
def DomA.flag (n : Nat) : Bool := decide (n = 1)
theorem DomA.flag_of (m : Bool) : ∃ n, DomA.flag n = m := by cases m; exact ⟨0, rfl⟩; exact ⟨1, rfl⟩
theorem DomA.infoS : (Tryd.prog.info? 26).map (fun i => (i.zero, i.size, i.bytes)) = some (some (.slice none 0 0), 1, 24) := by kernel_rfl
theorem DomA.reokR {w w' : World} {base : Nat} {ok ok' : Nat → Prop} {v : Value} {xs : List Int} (h : Kd.R (Kd.int .i64) 3 w base ok v xs) (hk : ∀ k, v.ownBlock = some k → ok' k) : Kd.R (Kd.int .i64) 3 w base ok' v xs := Kd.R_reok rfl h hk
theorem DomA.ownLt {w : World} {base : Nat} {ok : Nat → Prop} {v : Value} {xs : List Int} (h : Kd.R (Kd.int .i64) 3 w base ok v xs) (k : Nat) (hk : v.ownBlock = some k) : k < w.heap.size := by
  obtain ⟨cs, hc⟩ := Kd.R_typed h k hk
  exact blk_lt hc
theorem DomA.order_pos {l0 : List (List Int)} {ord : List Int} (h : dom_Order.f l0 = some ord) (h0 : ord.length ≠ 0) : 0 < l0.length := by
  unfold dom_Order.f at h
  split at h
  rotate_left
  · cases h
  obtain ⟨r', ho, h⟩ := Option.bind_eq_some_iff.mp h
  split at h
  rotate_left
  · cases h
  obtain rfl := Option.some.inj h
  by_cases hl : l0.length = 0
  · unfold orderF at ho
    rw [if_pos hl] at ho
    obtain rfl := Option.some.inj ho
    exact absurd rfl h0
  · omega
theorem DomA.order_guard {l0 : List (List Int)} {ord : List Int} (h : dom_Order.f l0 = some ord) : ord.length ≤ 17592186044416 ∧ ∀ i, (rdL l0 i).length < 4611686018427387904 := by
  unfold dom_Order.f at h
  split at h
  rotate_left
  · cases h
  rename_i hg
  obtain ⟨r', ho, h⟩ := Option.bind_eq_some_iff.mp h
  split at h
  rotate_left
  · cases h
  rename_i hg3
  obtain rfl := Option.some.inj h
  refine ⟨hg3, fun i => ?_⟩
  unfold rdL
  by_cases hi : i.toNat < l0.length
  · have := List.all_eq_true.mp hg.2 (l0.getD i.toNat []) (by simp [List.getD_eq_getElem?_getD, hi])
    simpa using this
  · simp [List.getD_eq_getElem?_getD, hi]
set_option maxHeartbeats 16000000 in
set_option maxRecDepth 100000 in
theorem dom_Idom.calls (k : Nat) (A0 : Option Addr) (c0 : Nat) (l0 : List (List Int)) (r : List Int) (w : World) (hr0 : Kd.C (Kd.slice 3 (Kd.int .i64)) w A0 l0.length l0) (hc0 : l0.length ≤ c0) (h : dom_Idom.f k l0 = some r) :
    Calls Tryd.prog 15 #[.slice A0 l0.length c0] w fun e w' => ∃ v0_ : Value, e = .returned v0_ ∧ Kd.R (Kd.int .i64) 3 w' w.heap.size (fun _ => True) v0_ r ∧ Below w.heap.size w w' := by
  unfold dom_Idom.f at h
  split at h
  rotate_left
  · cases h
  rename_i hg1
  obtain ⟨ord, ho, h⟩ := Option.bind_eq_some_iff.mp h
  have z2 : decide (0 ≤ (l0.length : Int)) = true := decide_eq_true (by omega)
  have z4 : (0 ≤ (l0.length : Int)) = True := eq_true (by omega)
  have hmf : ∀ (fn : Fn) (first cap : Array Value) (w : World), (Instr.makeFunc fn first cap).run Tryd.prog w = .ok (.func fn first cap) w := fun _ _ _ _ => rfl
  have HO := Aside0.mk ho
  have HG1 := Aside0.mk hg1
  have HR0 := Aside0.mk hr0
  have HC0 := Aside0.mk hc0
  have HH := Aside0.mk h
  have HB := Aside0.mk (Below.refl w.heap.size w)
  clear ho hg1 hr0 hc0 h
  go_enter Tryd.func15, Tryd.ntmps15
  go_wp2_with (first
    | ((with_reducible refine gate_callee (f := 16) rfl ?_); refine goesL_ (some 20) rfl rfl Tryd.func16 (by kernel_rfl) rfl #[.slice A0 l0.length c0] rfl (by (try simp only [List.map_toArray, List.map_cons, List.map_nil]); first | done | rfl) ?_; (with_reducible refine (dom_Order.calls A0 c0 l0 ord w HR0.out HC0.out HO.out).mono ?_); rintro e w1 ⟨v1, rfl, ho1, hb1⟩; refine ⟨_, rfl, ?_⟩; obtain ⟨Ao, co, eo⟩ := Kd.R_slice ho1; subst eo; have ORD := Aside0.mk (DomA.reokR (w' := w1) (ok' := fun k => k < w1.heap.size) ho1 (DomA.ownLt ho1)); have HB1 := Aside0.mk hb1; clear ho1 hb1)
    | ((with_reducible refine gate_dst (N := 23) rfl ?_); refine Kd.R_make (Kd.int .i64) _ 3 rfl (N := 23) rfl 26 _ _ rfl (l0.length : Int) rfl rfl Tryd.underlying26 (.int .i64 0) 8 DomA.infoI rfl (by decide) (by omega) (0 : Int) (ok := fun _ => True) (okp := fun _ => True) rfl (fun _ hk => hk) trivial (by omega) (by have := HG1.out; omega) (Below.refl _ _) (Nat.le_refl _) ?_; intro v2 w2 ho2 hb2 hg2 hnew2; rw [Int.toNat_natCast] at ho2; obtain ⟨A1, c1, e1⟩ := Kd.R_slice ho2; rw [List.length_replicate] at e1; subst e1; have ORD2 := Aside0.mk (Kd.R_below ORD.out hb2); have T2 := Aside0.mk (DomA.reokR (w' := w2) (ok' := fun k => w1.heap.size ≤ k ∧ k < w2.heap.size) (Kd.R_lower ho2 (below_size HB1.out)) (fun k hk => ⟨Kd.R_base ho2 k hk, DomA.ownLt ho2 k hk⟩)); have HB2 := Aside0.mk (below_step HB1.out hb2); have S12 := Aside0.mk (below_size hb2); clear ho2 hb2 hg2 hnew2 ORD)
    | ((with_reducible refine gate_dst (N := 4) rfl ?_); refine box_event ?hg (N := 4) ?hd (cs := #[.slice none 0 0]) (t := 26) ?hr ?_; (case hd => rfl); (case hg => rfl); (case hr => first | (go_simp; done) | (go_simp; rfl)); intro bt hbt w3 hbox hb3; have m1 : w3.cell? ⟨bt, 0, none⟩ = some (.slice none 0 0) := (blk_cell hbox 0).trans rfl; have m2 := blk_frozen hbox 0; have BT3 := Aside0.mk hbox; have ORD3 := Aside0.mk (Kd.R_below ORD2.out hb3); have T3 := Aside0.mk (Kd.R_below T2.out hb3); have EBT := Aside0.mk hbt; have LBT := Aside0.mk (show w.heap.size ≤ bt by rw [hbt]; exact below_size HB2.out); have HB3 := Aside0.mk (below_step HB2.out hb3); have S23 := Aside0.mk (below_size hb3); clear hbox hb3 hbt ORD2 T2)
    | ((with_reducible refine gate_store (t := 26) (p := 4) rfl ?_); refine store_event (t := 26) (p := 4) (v := ?vo) (w1 := (w3.setCell ⟨bt, 0, none⟩ (.slice A1 l0.length c1))) ?hg ?ho ?hn ?hr ?_; (case ho => rfl); (case hg => rfl); (case hn => rfl); (case hr => first | (go_simp; done) | (go_simp; rfl)); intro w4 hw; have BT4 := Aside0.mk (show w4.heap[bt]? = some (.cells #[.slice A1 l0.length c1] 26 (0, 0)) by rw [hw]; exact blk_put BT3.out 0 (.slice A1 l0.length c1) rfl); have hg4 : w3.grownBy w4 (some bt) := (by rw [hw]; exact ⟨rfl, rfl, rfl, by simp [World.setCell], fun k _ hk => Below.heap_setCell _ _ _ k (fun e => hk (by rw [e]))⟩); have ORD4 := Aside0.mk (Kd.R_over' (v := .slice (some ⟨bt, 0, none⟩) 1 1) ORD3.out (fun k hk => by cases hk; exact ⟨_, BT3.out⟩) (by decide) hg4); have T4 := Aside0.mk (Kd.R_over' (v := .slice (some ⟨bt, 0, none⟩) 1 1) T3.out (fun k hk => by cases hk; exact ⟨_, BT3.out⟩) (by decide) hg4); have HB4 := Aside0.mk (show Below w.heap.size w w4 by rw [hw]; exact below_set HB3.out LBT.out); have S34 := Aside0.mk hg4.size; clear hw hg4 m1 m2 ORD3 T3 BT3)
    | ((with_reducible refine gate_dst (N := 26) rfl ?_); refine Kd.R_make (Kd.int .i64) _ 3 rfl (N := 26) rfl 26 _ _ rfl (l0.length : Int) rfl rfl Tryd.underlying26 (.int .i64 0) 8 DomA.infoI rfl (by decide) (by omega) (0 : Int) (ok := fun _ => True) (okp := fun _ => True) rfl (fun _ hk => hk) trivial (by omega) (by have := HG1.out; omega) (Below.refl _ _) (Nat.le_refl _) ?_; intro v5 w5 ho5 hb5 hg5 hnew5; rw [Int.toNat_natCast] at ho5; obtain ⟨A2, c2, e2⟩ := Kd.R_slice ho5; rw [List.length_replicate] at e2; subst e2; have ORD5 := Aside0.mk (Kd.R_below ORD4.out hb5); have T5 := Aside0.mk (Kd.R_below T4.out hb5); have BT5 := Aside0.mk (blk_below BT4.out hb5); have D5 := Aside0.mk (DomA.reokR (w' := w5) (ok' := fun k => w2.heap.size ≤ k ∧ k < w5.heap.size) (Kd.R_lower ho5 (below_size HB4.out)) (fun k hk => ⟨Nat.le_trans (Nat.le_trans S23.out S34.out) (Kd.R_base ho5 k hk), DomA.ownLt ho5 k hk⟩)); have HB5 := Aside0.mk (below_step HB4.out hb5); have S45 := Aside0.mk (below_size hb5); clear ho5 hb5 hg5 hnew5 ORD4 T4 BT4)
    | ((with_reducible refine gate_dst (N := 5) rfl ?_); refine box_event ?hg (N := 5) ?hd (cs := #[.slice none 0 0]) (t := 26) ?hr ?_; (case hd => rfl); (case hg => rfl); (case hr => first | (go_simp; done) | (go_simp; rfl)); intro bi hbi w6 hbox hb6; have m1 : w6.cell? ⟨bi, 0, none⟩ = some (.slice none 0 0) := (blk_cell hbox 0).trans rfl; have m2 := blk_frozen hbox 0; have BI6 := Aside0.mk hbox; have ORD6 := Aside0.mk (Kd.R_below ORD5.out hb6); have T6 := Aside0.mk (Kd.R_below T5.out hb6); have D6 := Aside0.mk (Kd.R_below D5.out hb6); have BT6 := Aside0.mk (blk_below BT5.out hb6); have NTI := Aside0.mk (show bt ≠ bi by have := blk_lt BT5.out; omega); have LBI := Aside0.mk (show w.heap.size ≤ bi by rw [hbi]; exact below_size HB5.out); have HB6 := Aside0.mk (below_step HB5.out hb6); have S56 := Aside0.mk (below_size hb6); clear hbox hb6 hbi ORD5 T5 D5 BT5))
  obtain ⟨w7, hw⟩ : ∃ w7 : World, w7 = (w6.setCell ⟨bi, 0, none⟩ (.slice A2 l0.length c2)) := ⟨_, rfl⟩
  rw [← hw]
  have hg7 : w6.grownBy w7 (some bi) := (by rw [hw]; exact ⟨rfl, rfl, rfl, by simp [World.setCell], fun k _ hk => Below.heap_setCell _ _ _ k (fun e => hk (by rw [e]))⟩)
  have h7 : DI w ⟨bt, bi, A1, A2, c1, c2, l0.length, .slice Ao ord.length co, w1.heap.size, w2.heap.size, w7.heap.size⟩ (List.replicate l0.length 0) (List.replicate l0.length 0) ord w7 := ⟨(by rw [hw]; exact below_set HB6.out LBI.out), blk_grown BT6.out hg7 (by have := NTI.out; simpa using this), (by rw [hw]; exact blk_put BI6.out 0 (.slice A2 l0.length c2) rfl), Kd.R_over' (v := .slice (some ⟨bi, 0, none⟩) 1 1) T6.out (fun k hk => by cases hk; exact ⟨_, BI6.out⟩) (by decide) hg7, Kd.R_mono (Kd.R_over' (v := .slice (some ⟨bi, 0, none⟩) 1 1) D6.out (fun k hk => by cases hk; exact ⟨_, BI6.out⟩) (by decide) hg7) (fun k hk => ⟨hk.1, Nat.lt_of_lt_of_le hk.2 (Nat.le_trans S56.out hg7.size)⟩), Kd.R_over' (v := .slice (some ⟨bi, 0, none⟩) 1 1) ORD6.out (fun k hk => by cases hk; exact ⟨_, BI6.out⟩) (by decide) hg7, (Nat.lt_of_lt_of_le (blk_lt BT6.out) hg7.size), (Nat.lt_of_lt_of_le (blk_lt BI6.out) hg7.size), below_size HB1.out, S12.out, (Nat.le_trans (Nat.le_trans (Nat.le_trans (Nat.le_trans S23.out S34.out) S45.out) S56.out) hg7.size), Nat.le_refl _⟩
  have H7 := Aside0.mk h7
  have f7 : w7.cell? ⟨bi, 0, none⟩ = some (.slice A2 l0.length c2) := (blk_cell h7.hd 0).trans rfl
  clear hw hg7 h7 m1 m2 ORD6 T6 D6 BT6 BI6
  clear hmf
  go_loopw [29] (fun vi wr => ∃ (j : Nat) (T D : List Int), vi = .int .i64 (j : Int) ∧ j ≤ l0.length ∧ (T.length = l0.length ∧ D.length = l0.length ∧ ∀ q, q < j → T.getD q 0 = -1 ∧ D.getD q 0 = -1) ∧ Aside0 (DI w ⟨bt, bi, A1, A2, c1, c2, l0.length, .slice Ao ord.length co, w1.heap.size, w2.heap.size, w7.heap.size⟩ T D ord wr)) (fun vi _ => l0.length - (intOf vi).toNat)
  case atStart => exact ⟨0, _, _, rfl, Nat.zero_le _, ⟨by simp, by simp, fun q hq => by omega⟩, H7⟩
  case round =>
    obtain ⟨j, T, D, rfl, hj, hTD, hI⟩ := hrel
    clear H7 f7
    by_cases hlt : j < l0.length
    · obtain ⟨g1, e1, n1, n2, n3, p1, p2, st1⟩ := hI.out.T (j : Int) (by omega) (by simp only; omega)
      obtain ⟨g2, e2, n4, n5, n6, p3, p4, st2⟩ := hI.out.D (j : Int) (by omega) (by simp only; omega)
      have ne12 := hI.out.ne e1 e2
      have ne21 := ne12.symm
      simp only at e1 e2 n1 n2 n4 n5
      subst e1
      subst e2
      have b1 : wr.cell? ⟨bt, 0, none⟩ = some (.slice (some ⟨g1, 0, none⟩) l0.length c1) := (blk_cell hI.out.ht 0).trans rfl
      have b2 : wr.cell? ⟨bi, 0, none⟩ = some (.slice (some ⟨g2, 0, none⟩) l0.length c2) := (blk_cell hI.out.hd 0).trans rfl
      rw [Int.toNat_natCast] at p1 p2 p3 p4
      have y0 : decide ((j : Int) < (l0.length : Int)) = true := decide_eq_true (by omega)
      have q1 : 0 ≤ (j : Int) := by omega
      have q2 : (j : Int) < (l0.length : Int) := by omega
      have n7 := n1.symm
      have n8 := n2.symm
      have n9 := n4.symm
      have n10 := n5.symm
      have HTD := Aside0.mk hTD
      have ST1 := Aside0.mk st1
      clear hTD st1 st2
      generalize rd T (j : Int) = ta at p1
      generalize rd D (j : Int) = da at p3
      have hgn : l0.length < 4611686018427387904 := by have := HG1.out; omega
      go_wp2
      go_region_held3 (fun w' => w'.cell? ⟨bt, 0, none⟩ = some (.slice (some ⟨g1, 0, none⟩) l0.length c1) ∧ w'.cell? ⟨bi, 0, none⟩ = some (.slice (some ⟨g2, 0, none⟩) l0.length c2)) (go_keep) (fail)
      all_goals go_wp2
      all_goals go_roundw
      case measure => simp [intOf]; omega
      case rel =>
        refine ⟨j + 1, T.set j (-1), D.set j (-1), by go_num, hlt, ⟨by rw [List.length_set]; exact HTD.out.1, by rw [List.length_set]; exact HTD.out.2.1, fun q hq => ?_⟩, ⟨DI.drew ?_⟩⟩
        · rw [getD_set_ _ _ _ _ (by rw [HTD.out.1]; exact hlt), getD_set_ _ _ _ _ (by rw [HTD.out.2.1]; exact hlt)]
          by_cases e : q = j
          · rw [if_pos e, if_pos e]; exact ⟨rfl, rfl⟩
          · rw [if_neg e, if_neg e]; exact HTD.out.2.2 q (by omega)
        · have d1 := (ST1.out (-1)).1
          obtain ⟨g2', e2', _, _, _, _, _, st⟩ := d1.D (j : Int) (by omega) (by simp only; omega)
          injection e2' with e2'
          injection e2' with e2'
          subst e2'
          exact (st (-1)).1
    · obtain rfl : j = l0.length := by omega
      obtain rfl := repl_of hTD.1 fun q hq => (hTD.2.2 q hq).1
      obtain rfl := repl_of hTD.2.1 fun q hq => (hTD.2.2 q hq).2
      have y0 : decide ((l0.length : Int) < (l0.length : Int)) = false := decide_eq_false (by omega)
      clear hTD hlt hj
      obtain ⟨T1, P1, hOP, hFin⟩ := idomF_parts HH.out
      have HOP := Aside0.mk hOP
      have HFIN := Aside0.mk hFin
      clear hOP hFin
      go_wp2_with (first
        | ((with_reducible refine gate_dst (N := 41) rfl ?_); refine Kd.S_make (Kd.slice 3 (Kd.int .i64)) (w0 := w) w.heap.size 26 rfl (N := 41) rfl 22 _ _ rfl (l0.length : Int) rfl rfl Tryd.underlying22 (.slice none 0 0) 24 DomA.infoS rfl (by decide) (by omega) [] (ok := fun k => w7.heap.size ≤ k) (okp := fun k => w7.heap.size ≤ k) ⟨_, rfl, Kd.R_nil _ _ _ _ _⟩ (fun _ hk => hk) hI.out.sz (by omega) (by have := HG1.out; omega) hI.out.below (below_size hI.out.below) ?_; intro v8 w8 ho8 hb8 hg8 hnew8; rw [Int.toNat_natCast] at ho8; obtain ⟨A3, c3, e3⟩ := Kd.S_slice ho8; rw [List.length_replicate] at e3; subst e3; have H8 := Aside0.mk (hI.out.other hg8 (fun k hk => by cases hk) hb8); have PS8 := Aside0.mk (show PS w w7.heap.size A3 l0.length c3 (List.replicate l0.length []) w8 from ho8); clear ho8 hb8 hg8 hnew8))
      clear hI
      have P0 := PS8
      go_loopw [44] (fun vi wr => ∃ (m : Nat) (T : List Int) (P : List (List Int)), vi = .int .i64 (m : Int) ∧ m ≤ ord.length ∧ Aside0 (outerP l0 (ord.drop m) m T P = some (T1, P1)) ∧ Aside0 (DI w ⟨bt, bi, A1, A2, c1, c2, l0.length, .slice Ao ord.length co, w1.heap.size, w2.heap.size, w7.heap.size⟩ T (List.replicate l0.length (-1)) ord wr) ∧ Aside0 (PS w w7.heap.size A3 l0.length c3 P wr)) (fun vi _ => ord.length - (intOf vi).toNat)
      case atStart => exact ⟨0, _, _, rfl, Nat.zero_le _, ⟨by rw [List.drop_zero]; exact HOP.out⟩, H8, PS8⟩
      case round =>
        obtain ⟨m, T, P, rfl, hm, hO, hI, hP⟩ := hrel
        clear HOP H8 PS8 P0
        by_cases hlt : m < ord.length
        · obtain ⟨ado, co', eO, _, hxo⟩ := hI.out.O (m : Int) (by omega) (by omega)
          obtain ⟨eO1, eO2⟩ : Ao = some ado ∧ co = co' := by simp only at eO; injection eO with a _ b; exact ⟨a, b⟩
          subst eO1
          subst eO2
          rw [Int.toNat_natCast] at hxo
          have hdrop : ord.drop m = rd ord (m : Int) :: ord.drop (m + 1) := by
            rw [List.drop_eq_getElem_cons hlt]
            simp [rd, hlt]
          have hq := hO.out
          rw [hdrop] at hq
          simp only [outerP] at hq
          clear hdrop hO eO
          generalize rd ord (m : Int) = i at hxo hq
          split at hq
          rotate_left
          · cases hq
          rename_i hi
          obtain ⟨hi0, hi1⟩ := hi
          obtain ⟨P2, hq1, hq2⟩ := Option.bind_eq_some_iff.mp hq
          have HQ1 := Aside0.mk hq1
          have HQ2 := Aside0.mk hq2
          clear hq hq1 hq2
          obtain ⟨g1, e1, n1, n2, n3, p1, p2, st1⟩ := hI.out.T i hi0 hi1
          simp only at e1 n1 n2
          subst e1
          obtain ⟨adn, A4, c4, eA, hxn, hl4, hr4⟩ := at_L HR0.out i hi0 (by omega)
          subst eA
          have hbn := World.block_lt_of_cell? _ _ hxn
          generalize hcs : rdL l0 i = cs at hxn hl4 hr4 HQ1
          have HR4 := Aside0.mk hr4
          have HXN := Aside0.mk hxn
          have ST1 := Aside0.mk st1
          have hgn : ord.length < 4611686018427387904 := by have := (DomA.order_guard HO.out).1; omega
          have hgc : cs.length < 4611686018427387904 := by rw [← hcs]; exact (DomA.order_guard HO.out).2 i
          clear hxn hr4 hcs hl4 hbn st1
          generalize rd T i = ta at p1
          have b1 : wr.cell? ⟨bt, 0, none⟩ = some (.slice (some ⟨g1, 0, none⟩) l0.length c1) := (blk_cell hI.out.ht 0).trans rfl
          have y0 : decide ((m : Int) < (ord.length : Int)) = true := decide_eq_true (by omega)
          have y1 : (m < ord.length) = True := eq_true hlt
          have q1 : (0 ≤ i) = True := eq_true hi0
          have q2 : (i < (l0.length : Int)) = True := eq_true hi1
          have hfz : (wr.setCell ⟨g1, i.toNat, none⟩ (.int .i64 (m : Int))).cell? (adn.add i.toNat) = some (.slice A4 cs.length c4) := (((ST1.out (m : Int)).1).below.cell (World.block_lt_of_cell? _ _ HXN.out)).trans HXN.out
          go_wp2
          obtain ⟨w9, hw⟩ : ∃ w9 : World, w9 = (wr.setCell ⟨g1, i.toNat, none⟩ (.int .i64 (m : Int))) := ⟨_, rfl⟩
          rw [← hw]
          have h9 : DI w ⟨bt, bi, some ⟨g1, 0, none⟩, A2, c1, c2, l0.length, .slice (some ado) ord.length co, w1.heap.size, w2.heap.size, w7.heap.size⟩ (T.set i.toNat (m : Int)) (List.replicate l0.length (-1)) ord w9 := (by rw [hw]; exact (ST1.out (m : Int)).1)
          have H9 := Aside0.mk h9
          have PS9 := Aside0.mk (hP.out.grown (show wr.grownBy w9 (some g1) by rw [hw]; exact (ST1.out (m : Int)).2) (fun k hk => by cases hk; exact n3))
          clear hw h9 hfz b1 p1 p2
          go_loopw [58] (fun vi wr => ∃ (j : Nat) (P' : List (List Int)), vi = .int .i64 (j : Int) ∧ j ≤ cs.length ∧ Aside0 (innerP l0.length i (cs.drop j) P' = some P2) ∧ Aside0 (DI w ⟨bt, bi, some ⟨g1, 0, none⟩, A2, c1, c2, l0.length, .slice (some ado) ord.length co, w1.heap.size, w2.heap.size, w7.heap.size⟩ (T.set i.toNat (m : Int)) (List.replicate l0.length (-1)) ord wr) ∧ Aside0 (PS w w7.heap.size A3 l0.length c3 P' wr)) (fun vi _ => cs.length - (intOf vi).toNat)
          case atStart => exact ⟨0, _, rfl, Nat.zero_le _, ⟨by rw [List.drop_zero]; exact HQ1.out⟩, H9, PS9⟩
          case round =>
            obtain ⟨j, P', rfl, hj, hQ, hI2, hP2⟩ := hrel
            clear H9 PS9 HQ1
            by_cases hlt2 : j < cs.length
            · obtain ⟨ad4, e4, hx4⟩ := Kd.at_int (Kd.C_below HR4.out hI2.out.below) (j : Int) (by omega) (by omega)
              rw [Int.toNat_natCast] at hx4
              subst e4
              have hdrop : cs.drop j = rd cs (j : Int) :: cs.drop (j + 1) := by
                rw [List.drop_eq_getElem_cons hlt2]
                simp [rd, hlt2]
              have hq := hQ.out
              rw [hdrop] at hq
              simp only [innerP] at hq
              clear hdrop hQ
              generalize rd cs (j : Int) = c at hx4 hq
              have y2 : decide ((j : Int) < (cs.length : Int)) = true := decide_eq_true (by omega)
              have y3 : (j < cs.length) = True := eq_true hlt2
              by_cases k0 : 0 ≤ c ∧ c < (l0.length : Int)
              · rw [if_pos k0] at hq
                split at hq
                rotate_left
                · cases hq
                rename_i hbig
                have HQ2' := Aside0.mk hq
                have HBIG := Aside0.mk hbig
                obtain ⟨k1, k2⟩ := k0
                clear hq hbig
                have k1b : decide (0 ≤ c) = true := decide_eq_true k1
                have k2b : decide (c < (l0.length : Int)) = true := decide_eq_true k2
                have k1t : (0 ≤ c) = True := eq_true k1
                have k2t : (c < (l0.length : Int)) = True := eq_true k2
                obtain ⟨g3, A5, c5, oki, e5, hs3, hw3, hx5, hr5, hok5, hput⟩ := hP2.out.elem c k1 k2
                subst e5
                have HR5 := Aside0.mk hr5
                have HOK5 := Aside0.mk hok5
                have HPUT := Aside0.mk hput
                clear hr5 hok5 hput k1 k2
                generalize rdL P' c = el at *
                go_wp2_with ((with_reducible refine gate_builtin (b := .append) (xs := #[.tmp 75, .tmp 77]) rfl ?_); (try (refine gate_guard (by rfl) ?_; dsimp only)); at_builtin; refine Kd.R_append (Kd.int .i64) (w0 := w) w.heap.size rfl (.tmp 75) (.tmp 77) 26 3 (.int .i64 0) 8 rfl Tryd.underlying26 DomA.infoI rfl (by decide) (by omega) (.slice A5 el.length c5) el i [.int .i64 i] (fun k_ => oki k_ ∨ w7.heap.size ≤ k_ ∧ wr.heap.size ≤ k_) (fun _ => False) rfl rfl ?aP (fun _ hk => hk.elim) ?aF ?aO ?aB ?aS ?aL ?_; (case aP => exact rfl); (case aB => exact hI2.out.below); (case aF => exact (fun k_ hk => .inr ⟨Nat.le_trans hI2.out.sz hk, hk⟩)); (case aO => exact Kd.R_mono HR5.out (fun _ hk => .inl hk)); (case aS => exact below_size hI2.out.below); (case aL => have := HBIG.out; omega); intro v10 w10 ho hb hg hat; obtain ⟨⟨u10, f10⟩, f11, hp10, hg10⟩ := HPUT.out w10 v10 _ ho hg; have d10 := hI2.out.other hg (fun k hk => HOK5.out k (HR5.out.1 k hk)) hb; have d11 := d10.other hg10 (fun k hk => by cases hk; exact hs3) (below_set hb hw3); have D11 := Aside0.mk d11; have P11 := Aside0.mk hp10; obtain ⟨A10, c10, e10⟩ := Kd.R_slice ho; subst e10; clear ho hb hg hat hp10 hg10 d10 d11)
                go_roundw
                case rel => exact ⟨j + 1, _, by go_num, hlt2, HQ2', ⟨by have := D11.out; rw [List.length_append] at this; exact this⟩, ⟨by have := P11.out; rw [List.length_append] at this; exact this⟩⟩
                case measure => simp [intOf]; omega
              · rw [if_neg k0] at hq
                have HQ2' := Aside0.mk hq
                clear hq
                by_cases k1 : 0 ≤ c
                · have k1b : decide (0 ≤ c) = true := decide_eq_true k1
                  have k2b : decide (c < (l0.length : Int)) = false := decide_eq_false (fun h => k0 ⟨k1, h⟩)
                  clear k0
                  go_wp2
                  go_roundw
                  case rel => exact ⟨j + 1, P', by go_num, hlt2, HQ2', hI2, hP2⟩
                  case measure => simp [intOf]; omega
                · have k1b : decide (0 ≤ c) = false := decide_eq_false k1
                  clear k0
                  go_wp2
                  go_roundw
                  case rel => exact ⟨j + 1, P', by go_num, hlt2, HQ2', hI2, hP2⟩
                  case measure => simp [intOf]; omega
            · obtain rfl : j = cs.length := by omega
              have hq := hQ.out
              rw [List.drop_length] at hq
              simp only [innerP, Option.some.injEq] at hq
              subst hq
              have y2 : decide ((cs.length : Int) < (cs.length : Int)) = false := decide_eq_false (by omega)
              clear hlt2 hj hQ
              go_wp2
              go_roundw
              case rel => exact ⟨m + 1, _, _, by go_num, hlt, HQ2, hI2, hP2⟩
              case measure => simp [intOf]; omega
        · obtain rfl : m = ord.length := by omega
          have hq := hO.out
          rw [List.drop_length] at hq
          simp only [outerP, Option.some.injEq, Prod.mk.injEq] at hq
          obtain ⟨rfl, rfl⟩ := hq
          have y0 : decide ((ord.length : Int) < (ord.length : Int)) = false := decide_eq_false (by omega)
          have b2 : wr.cell? ⟨bi, 0, none⟩ = some (.slice A2 l0.length c2) := (blk_cell hI.out.hd 0).trans rfl
          clear hlt hm hO
          rcases HFIN.out with ⟨h0, rfl⟩ | ⟨h0, Df, hdf, rfl⟩
          · have y1 : ((ord.length : Int) == 0) = true := beq_iff_eq.mpr (by omega)
            have y2 : (ord.length : Int) = 0 := by omega
            have HRD := Aside0.mk (Kd.R_mono hI.out.rd (fun _ _ => trivial) : Kd.R (Kd.int .i64) 3 wr w.heap.size (fun _ => True) _ _)
            go_wp2
            go_ret
            exact ⟨_, rfl, HRD.out, hI.out.below⟩
          · have y1 : ((ord.length : Int) == 0) = false := beq_eq_false_iff_ne.mpr (by omega)
            have y2 : ¬ ((ord.length : Int) = 0) := by omega
            have hn := DomA.order_pos HO.out h0
            have HN := Aside0.mk hn
            have HDF := Aside0.mk hdf
            have H0 := Aside0.mk h0
            clear hdf h0
            obtain ⟨g2, e2, n4, n5, n6, p3, p4, st2⟩ := hI.out.D 0 (by omega) (by simp only; omega)
            obtain ⟨g1, e1, n1, n2, n3, _, _, _⟩ := hI.out.T 0 (by omega) (by simp only; omega)
            simp only at e1 e2 n1 n2 n4 n5
            subst e1
            subst e2
            rw [show (0 : Int).toNat = 0 from rfl] at p3 p4 st2
            have ST2 := Aside0.mk st2
            clear st2
            have z5 : (0 < l0.length) = True := eq_true hn
            have z6 : ((0 : Int) < (l0.length : Int)) = True := eq_true (by omega)
            have hmf : ∀ (fn : Fn) (first cap : Array Value) (w : World), (Instr.makeFunc fn first cap).run Tryd.prog w = .ok (.func fn first cap) w := fun _ _ _ _ => rfl
            obtain ⟨ado, co', eO, hco, _⟩ := hI.out.O 0 (by omega) (by have := H0.out; omega)
            obtain ⟨eO1, eO2⟩ : Ao = some ado ∧ co = co' := by simp only at eO; injection eO with a _ b; exact ⟨a, b⟩
            subst eO1
            subst eO2
            clear eO
            obtain ⟨go, coo, eO, _, _, _⟩ := Kd.R_form hI.out.ro (by have := H0.out; omega)
            obtain rfl : ado = ⟨go, 0, none⟩ := by simp only at eO; injection eO with a; injection a
            clear eO
            go_wp2
            obtain ⟨w9, hw⟩ : ∃ w9 : World, w9 = (wr.setCell ⟨g2, 0, none⟩ (.int .i64 0)) := ⟨_, rfl⟩
            rw [← hw]
            have H9 : Aside0 (DI w ⟨bt, bi, some ⟨g1, 0, none⟩, some ⟨g2, 0, none⟩, c1, c2, l0.length, .slice (some ⟨go, 0, none⟩) ord.length co, w1.heap.size, w2.heap.size, w7.heap.size⟩ T ((List.replicate l0.length (-1)).set 0 0) ord w9) := ⟨by rw [hw]; exact (ST2.out 0).1⟩
            have PS9 : Aside0 (PS w w7.heap.size A3 l0.length c3 P w9) := ⟨hP.out.grown (show wr.grownBy w9 (some g2) by rw [hw]; exact (ST2.out 0).2) (fun k hk => by cases hk; exact n6)⟩
            clear hw b2 p3 p4 hI hP hmf
            by_cases ec : co = 1
            · subst ec
              go_loopg [13] k (fun kq v13 w' => ∃ (more : Bool) (D : List Int), v13 = .bool more ∧ Aside0 ((more = true → roundsF k T P ord.tail kq D = some Df) ∧ (more = false → D = Df)) ∧ Aside0 (DI w ⟨bt, bi, some ⟨g1, 0, none⟩, some ⟨g2, 0, none⟩, c1, c2, l0.length, .slice (some ⟨go, 0, none⟩) ord.length 1, w1.heap.size, w2.heap.size, w7.heap.size⟩ T D ord w') ∧ Aside0 (PS w w7.heap.size A3 l0.length c3 P w'))
              case atStart => exact ⟨true, _, rfl, ⟨⟨fun _ => HDF.out, fun h => by cases h⟩⟩, H9, PS9⟩
              case round =>
                clear H9 PS9 HDF
                obtain ⟨more, D, rfl, HA, hI, hP⟩ := hrel
                cases more with
                | false =>
                  obtain rfl := HA.out.2 rfl
                  obtain ⟨g2', e2', _, _, _, p3, p4, st2⟩ := hI.out.D 0 (by omega) (by simp only; have := HN.out; omega)
                  obtain rfl : g2 = g2' := by simp only at e2'; injection e2' with e2'; injection e2' with e2'
                  rw [show (0 : Int).toNat = 0 from rfl] at p3 p4 st2
                  have ST2 := Aside0.mk (st2 (-1)).1
                  have b2 : wr.cell? ⟨bi, 0, none⟩ = some (.slice (some ⟨g2, 0, none⟩) l0.length c2) := (blk_cell hI.out.hd 0).trans rfl
                  clear st2
                  go_wp2
                  go_ret
                  exact ⟨_, rfl, Kd.R_mono ST2.out.rd (fun _ _ => trivial), ST2.out.below⟩
                | true =>
                  have hA := HA.out.1 rfl
                  cases gk with
                  | zero => cases hA
                  | succ k1 =>
                    simp only [roundsF] at hA
                    obtain ⟨⟨D2, more2⟩, hp, hA⟩ := Option.bind_eq_some_iff.mp hA
                    have HP1 := Aside0.mk hp
                    have HA2 := Aside0.mk hA
                    clear hA hp HA
                    have x1 : ((1 : Int) ≤ (ord.length : Int)) := by have := H0.out; omega
                    have x3 : 1 ≤ ord.length := by omega
                    have x2 : ((ord.length : Int) ≤ ((1 : Nat) : Int)) := by omega
                    have x4 : ord.length = 1 := by omega
                    have hp := HP1.out
                    have ht : ord.tail = [] := List.eq_nil_of_length_eq_zero (by rw [List.length_tail]; omega)
                    rw [ht] at hp
                    simp only [passF, Option.some.injEq, Prod.mk.injEq] at hp
                    obtain ⟨rfl, rfl⟩ := hp
                    have hA := HA2.out
                    simp only [Bool.false_eq_true, if_false, Option.some.injEq] at hA
                    have X6 := Aside0.mk (show ¬ (0 < ord.length - 1) by omega)
                    clear x4 ht
                    go_wp2
                    go_loopw [93, 13] (fun vi vm wr => ∃ (z : Nat), vi = .int .i64 (z : Int) ∧ vm = .bool false ∧ z = 0 ∧ Aside0 (DI w ⟨bt, bi, some ⟨g1, 0, none⟩, some ⟨g2, 0, none⟩, c1, c2, l0.length, .slice (some ⟨go, 0, none⟩) ord.length 1, w1.heap.size, w2.heap.size, w7.heap.size⟩ T D ord wr) ∧ Aside0 (PS w w7.heap.size A3 l0.length c3 P wr)) (fun vi _ _ => 0 - (intOf vi).toNat)
                    case atStart => exact ⟨0, rfl, rfl, rfl, hI, hP⟩
                    case round =>
                      obtain ⟨z, rfl, rfl, rfl, hI2, hP2⟩ := hrel
                      have x7 : decide (((0 : Nat) : Int) < ((ord.length - 1 : Nat) : Int)) = false := decide_eq_false (by have := X6.out; omega)
                      go_wp2
                      go_roundg k1
                      case measure => omega
                      case rel => exact ⟨false, D, rfl, ⟨⟨fun h => by (cases h), fun _ => hA⟩⟩, hI2, hP2⟩
            · go_loopg [13] k (fun kq v13 w' => ∃ (more : Bool) (D : List Int), v13 = .bool more ∧ Aside0 ((more = true → roundsF k T P ord.tail kq D = some Df) ∧ (more = false → D = Df)) ∧ Aside0 (DI w ⟨bt, bi, some ⟨g1, 0, none⟩, some ⟨g2, 0, none⟩, c1, c2, l0.length, .slice (some ⟨go, 0, none⟩) ord.length co, w1.heap.size, w2.heap.size, w7.heap.size⟩ T D ord w') ∧ Aside0 (PS w w7.heap.size A3 l0.length c3 P w'))
              case atStart => exact ⟨true, _, rfl, ⟨⟨fun _ => HDF.out, fun h => by cases h⟩⟩, H9, PS9⟩
              case round =>
                clear H9 PS9 HDF
                obtain ⟨more, D, rfl, HA, hI, hP⟩ := hrel
                cases more with
                | false =>
                  obtain rfl := HA.out.2 rfl
                  obtain ⟨g2', e2', _, _, _, p3, p4, st2⟩ := hI.out.D 0 (by omega) (by simp only; have := HN.out; omega)
                  obtain rfl : g2 = g2' := by simp only at e2'; injection e2' with e2'; injection e2' with e2'
                  rw [show (0 : Int).toNat = 0 from rfl] at p3 p4 st2
                  have ST2 := Aside0.mk (st2 (-1)).1
                  have b2 : wr.cell? ⟨bi, 0, none⟩ = some (.slice (some ⟨g2, 0, none⟩) l0.length c2) := (blk_cell hI.out.hd 0).trans rfl
                  clear st2
                  go_wp2
                  go_ret
                  exact ⟨_, rfl, Kd.R_mono ST2.out.rd (fun _ _ => trivial), ST2.out.below⟩
                | true =>
                  have hA := HA.out.1 rfl
                  cases gk with
                  | zero => cases hA
                  | succ k1 =>
                    simp only [roundsF] at hA
                    obtain ⟨⟨D2, more2⟩, hp, hA⟩ := Option.bind_eq_some_iff.mp hA
                    have HP1 := Aside0.mk hp
                    have HA2 := Aside0.mk hA
                    clear hA hp HA
                    have x1 : ((1 : Int) ≤ (ord.length : Int)) := by have := H0.out; omega
                    have x3 : 1 ≤ ord.length := by omega
                    have x2 : ((ord.length : Int) ≤ (co : Int)) := by omega
                    have x4 : ¬ ((co : Int) = 1) := by omega
                    have hOT : ∀ (j : Nat), j < ord.tail.length → ∀ W T' D', DI w ⟨bt, bi, some ⟨g1, 0, none⟩, some ⟨g2, 0, none⟩, c1, c2, l0.length, .slice (some ⟨go, 0, none⟩) ord.length co, w1.heap.size, w2.heap.size, w7.heap.size⟩ T' D' ord W → W.cell? ⟨go, 1 + j, none⟩ = some (.int .i64 (rd ord.tail (j : Int))) := by
                      intro j hj W T' D' h
                      rw [List.length_tail] at hj
                      obtain ⟨ad, c, e, _, hx⟩ := h.O ((j : Int) + 1) (by omega) (by omega)
                      obtain rfl : (⟨go, 0, none⟩ : Addr) = ad := by simp only at e; injection e with a; injection a
                      rw [show ((j : Int) + 1).toNat = j + 1 by omega] at hx
                      have e2 : rd ord.tail (j : Int) = rd ord ((j : Int) + 1) := by
                        simp only [rd, Int.toNat_natCast, show ((j : Int) + 1).toNat = j + 1 by omega]
                        simp [List.getD_eq_getElem?_getD]
                      rw [e2, ← hx]
                      simp [Addr.add, Nat.add_comm]
                    have HOT := Aside0.mk hOT
                    have htl : ord.tail.length = ord.length - 1 := List.length_tail
                    clear hOT
                    generalize ord.tail = tl at *
                    go_wp2
                    rw [← htl]
                    have HTL := Aside0.mk htl
                    clear htl
                    have HI0 := hI
                    go_loopw [93, 13] (fun vi vm wr => ∃ (j m : Nat) (D' : List Int), vi = .int .i64 (j : Int) ∧ vm = .bool (DomA.flag m) ∧ j ≤ tl.length ∧ Aside0 (passF k T P (tl.drop j) D' (DomA.flag m) = some (D2, more2)) ∧ Aside0 (DI w ⟨bt, bi, some ⟨g1, 0, none⟩, some ⟨g2, 0, none⟩, c1, c2, l0.length, .slice (some ⟨go, 0, none⟩) ord.length co, w1.heap.size, w2.heap.size, w7.heap.size⟩ T D' ord wr) ∧ Aside0 (PS w w7.heap.size A3 l0.length c3 P wr)) (fun vi _ _ => tl.length - (intOf vi).toNat)
                    case atStart => exact ⟨0, 0, D, rfl, rfl, Nat.zero_le _, ⟨by rw [List.drop_zero]; exact HP1.out⟩, hI, hP⟩
                    case round =>
                      obtain ⟨j, m, D', rfl, rfl, hj, hQ, hI2, hP2⟩ := hrel
                      clear HP1 hI hP HI0
                      by_cases hlt : j < tl.length
                      · have hxo := HOT.out j hlt _ _ _ hI2.out
                        have hdrop : tl.drop j = rd tl (j : Int) :: tl.drop (j + 1) := by
                          rw [List.drop_eq_getElem_cons hlt]
                          simp [rd, hlt]
                        have hq := hQ.out
                        rw [hdrop] at hq
                        simp only [passF] at hq
                        clear hdrop hQ
                        generalize rd tl (j : Int) = i at hxo hq
                        split at hq
                        rotate_left
                        · cases hq
                        rename_i hi
                        obtain ⟨hi0, hi1, hpn⟩ := hi
                        obtain ⟨b, hq1, hq2⟩ := Option.bind_eq_some_iff.mp hq
                        have HQ1 := Aside0.mk hq1
                        have HQ2 := Aside0.mk hq2
                        clear hq hq1 hq2
                        have hlD : D'.length = l0.length := (Kd.R_reads' hI2.out.rd).1.symm
                        have y0 : decide ((j : Int) < (tl.length : Int)) = true := decide_eq_true (by omega)
                        have y1 : (j < tl.length) = True := eq_true hlt
                        have hi2 : i < (l0.length : Int) := by omega
                        have q1 : (0 ≤ i) = True := eq_true hi0
                        have q2 : (i < (l0.length : Int)) = True := eq_true hi2
                        obtain ⟨g3, A5, c5, oki, e5, hs3, hw3, hx5, hr5, hok5, _⟩ := hP2.out.elem i hi0 hi2
                        subst e5
                        have HR5 := Aside0.mk hr5
                        have hpl := (Kd.R_reads' hr5).1
                        clear hr5
                        generalize rdL P i = ps at *
                        have htn : tl.length < 4611686018427387904 := by have := (DomA.order_guard HO.out).1; have := HTL.out; omega
                        go_wp2
                        go_loopw [102, 16] (fun vq vb wr => ∃ (q : Nat) (bb : Int), vq = .int .i64 (q : Int) ∧ vb = .int .i64 bb ∧ q ≤ ps.length ∧ Aside0 (bestF k T D' (ps.drop q) bb = some b) ∧ Aside0 (DI w ⟨bt, bi, some ⟨g1, 0, none⟩, some ⟨g2, 0, none⟩, c1, c2, l0.length, .slice (some ⟨go, 0, none⟩) ord.length co, w1.heap.size, w2.heap.size, w7.heap.size⟩ T D' ord wr) ∧ Aside0 (PS w w7.heap.size (some ⟨g3, 0, none⟩) l0.length c3 P wr) ∧ Aside0 (Kd.R (Kd.int .i64) 3 wr w.heap.size oki (.slice A5 ps.length c5) ps)) (fun vq _ _ => ps.length - (intOf vq).toNat)
                        case atStart => exact ⟨0, -1, rfl, rfl, Nat.zero_le _, ⟨by rw [List.drop_zero]; exact HQ1.out⟩, hI2, hP2, HR5⟩
                        case round =>
                          obtain ⟨q, bb, rfl, rfl, hq, hQ, hI3, hP3, hR3⟩ := hrel
                          clear HQ1 hI2 hP2 HR5 hxo hx5
                          by_cases hlt2 : q < ps.length
                          · obtain ⟨ad5, e5, hx6⟩ := Kd.at_int (Kd.R_reads' hR3.out).2.2 (q : Int) (by omega) (by omega)
                            rw [Int.toNat_natCast] at hx6
                            subst e5
                            have hdrop : ps.drop q = rd ps (q : Int) :: ps.drop (q + 1) := by
                              rw [List.drop_eq_getElem_cons hlt2]
                              simp [rd, hlt2]
                            have hz := hQ.out
                            rw [hdrop] at hz
                            simp only [bestF] at hz
                            clear hdrop hQ
                            generalize rd ps (q : Int) = p at hx6 hz
                            split at hz
                            rotate_left
                            · cases hz
                            rename_i hp
                            obtain ⟨hp0, hp1⟩ := hp
                            have hp2 : p < (l0.length : Int) := by omega
                            obtain ⟨g2', e2', _, _, _, p3, _, _⟩ := hI3.out.D p hp0 (by simp only; omega)
                            obtain rfl : g2 = g2' := by simp only at e2'; injection e2' with e2'; injection e2' with e2'
                            have b2 : wr.cell? ⟨bi, 0, none⟩ = some (.slice (some ⟨g2, 0, none⟩) l0.length c2) := (blk_cell hI3.out.hd 0).trans rfl
                            have y2 : decide ((q : Int) < (ps.length : Int)) = true := decide_eq_true (by omega)
                            have y3 : (q < ps.length) = True := eq_true hlt2
                            have q3 : (0 ≤ p) = True := eq_true hp0
                            have q4 : (p < (l0.length : Int)) = True := eq_true hp2
                            clear e2' hp0 hp1 hp2
                            by_cases d0 : rd D' p < 0
                            · rw [if_pos d0] at hz
                              have d1 : decide (rd D' p < 0) = true := decide_eq_true d0
                              have HZ := Aside0.mk hz
                              clear d0 hz
                              generalize rd D' p = dp at *
                              go_wp2
                              go_roundw
                              case rel => exact ⟨q + 1, bb, by go_num, rfl, hlt2, HZ, hI3, hP3, hR3⟩
                              case measure => simp [intOf]; omega
                            · rw [if_neg d0] at hz
                              have d1 : decide (rd D' p < 0) = false := decide_eq_false d0
                              clear d0
                              by_cases d2 : bb < 0
                              · rw [if_pos d2] at hz
                                have d3 : decide (bb < 0) = true := decide_eq_true d2
                                have HZ := Aside0.mk hz
                                clear d2 hz
                                generalize rd D' p = dp at *
                                go_wp2
                                go_roundw
                                case rel => exact ⟨q + 1, p, by go_num, rfl, hlt2, HZ, hI3, hP3, hR3⟩
                                case measure => simp [intOf]; omega
                              · rw [if_neg d2] at hz
                                have d3 : decide (bb < 0) = false := decide_eq_false d2
                                obtain ⟨mm, hm, hz⟩ := Option.bind_eq_some_iff.mp hz
                                have HZ := Aside0.mk hz
                                have HM := Aside0.mk (meet_calls T D' bt bi g1 g2 c1 c2 l0.length w.heap.size _ _ k bb p mm wr hm (Kd.R_reads' hI3.out.rt).1.symm hlD hI3.out.ht hI3.out.hd hI3.out.rt hI3.out.rd)
                                clear d2 hz hm
                                generalize rd D' p = dp at *
                                go_wp2_with (go_at_call 27; refine HM.out.mono ?_; rintro e w' ⟨rfl, ⟨nd, rfl⟩⟩)
                                go_roundw
                                case rel => exact ⟨q + 1, mm, by go_num, rfl, hlt2, HZ, ⟨hI3.out.drewN nd⟩, ⟨hP3.out.drewN nd⟩, ⟨Kd.R_drewN hR3.out nd⟩⟩
                                case measure => simp [intOf]; omega
                          · obtain rfl : q = ps.length := by omega
                            have hz := hQ.out
                            rw [List.drop_length] at hz
                            simp only [bestF, Option.some.injEq] at hz
                            subst hz
                            have y2 : decide ((ps.length : Int) < (ps.length : Int)) = false := decide_eq_false (by omega)
                            obtain ⟨g2', e2', _, _, _, p3, p4, st2⟩ := hI3.out.D i hi0 (by simp only; omega)
                            obtain rfl : g2 = g2' := by simp only at e2'; injection e2' with e2'; injection e2' with e2'
                            have ST2 := Aside0.mk (st2 bb)
                            have b2 : wr.cell? ⟨bi, 0, none⟩ = some (.slice (some ⟨g2, 0, none⟩) l0.length c2) := (blk_cell hI3.out.hd 0).trans rfl
                            have hq2 := HQ2.out
                            clear st2 e2' hlt2 hq hQ
                            by_cases d0 : bb = rd D' i
                            · rw [if_pos d0] at hq2
                              have HZ := Aside0.mk hq2
                              have d1 : (bb != rd D' i) = false := bne_eq_false_iff_eq.mpr d0
                              have d2 : (bb == rd D' i) = true := beq_iff_eq.mpr d0
                              clear hq2 d0 p4
                              generalize rd D' i = di at *
                              go_wp2
                              go_roundw
                              case rel => exact ⟨j + 1, m, D', by go_num, rfl, hlt, HZ, hI3, hP3⟩
                              case measure => simp [intOf]; omega
                            · rw [if_neg d0] at hq2
                              have HZ := Aside0.mk hq2
                              have d1 : (bb != rd D' i) = true := bne_iff_ne.mpr d0
                              have d2 : (bb == rd D' i) = false := beq_eq_false_iff_ne.mpr d0
                              clear hq2 d0
                              generalize rd D' i = di at *
                              go_wp2
                              go_roundw
                              case rel => exact ⟨j + 1, 1, _, by go_num, rfl, hlt, HZ, ⟨ST2.out.1⟩, ⟨hP3.out.grown ST2.out.2 (fun k hk => by cases hk; exact n6)⟩⟩
                              case measure => simp [intOf]; omega
                      · obtain rfl : j = tl.length := by omega
                        have hq := hQ.out
                        rw [List.drop_length] at hq
                        simp only [passF, Option.some.injEq, Prod.mk.injEq] at hq
                        obtain ⟨rfl, rfl⟩ := hq
                        have y0 : decide ((tl.length : Int) < (tl.length : Int)) = false := decide_eq_false (by omega)
                        clear hlt hj hQ
                        go_wp2
                        go_roundg k1
                        case measure => omega
                        case rel =>
                          refine ⟨DomA.flag m, D', rfl, ⟨⟨fun h => ?_, fun h => ?_⟩⟩, hI2, hP2⟩
                          · have := HA2.out; rw [if_pos h] at this; exact this
                          · have := HA2.out; rw [if_neg (by rw [h]; decide)] at this; exact Option.some.inj this
namespace DomA
theorem meetF_mono (T D : List Int) : ∀ K a b m, meetF T D K a b = some m → meetF T D (K + 1) a b = some m := by
  intro K
  induction K with
  | zero => intro a b m h; cases h
  | succ K ih =>
    intro a b m h
    rw [meetF] at h ⊢
    split
    · rename_i hc; rw [if_pos hc] at h; exact h
    · rename_i hc
      rw [if_neg hc] at h
      split
      · rename_i hd
        rw [if_pos hd] at h
        split
        · rename_i he; rw [if_pos he] at h; exact ih _ _ _ h
        · rename_i he; rw [if_neg he] at h; exact ih _ _ _ h
      · rename_i hd; rw [if_neg hd] at h; cases h
theorem bestF_mono (K : Nat) (T D : List Int) : ∀ ps b r, bestF K T D ps b = some r → bestF (K + 1) T D ps b = some r := by
  intro ps
  induction ps with
  | nil => intro b r h; exact h
  | cons p ps ih =>
    intro b r h
    simp only [bestF] at h ⊢
    split at h
    rotate_left
    · cases h
    rename_i hc
    rw [if_pos hc]
    split at h
    · rename_i hd; rw [if_pos hd]; exact ih _ _ h
    · rename_i hd
      rw [if_neg hd]
      split at h
      · rename_i he; rw [if_pos he]; exact ih _ _ h
      · rename_i he
        rw [if_neg he]
        obtain ⟨m, hm, h⟩ := Option.bind_eq_some_iff.mp h
        rw [meetF_mono _ _ _ _ _ _ hm]
        exact ih _ _ h
theorem passF_mono (K : Nat) (T : List Int) (P : List (List Int)) : ∀ is D more r, passF K T P is D more = some r → passF (K + 1) T P is D more = some r := by
  intro is
  induction is with
  | nil => intro D more r h; exact h
  | cons i is ih =>
    intro D more r h
    simp only [passF] at h ⊢
    split at h
    rotate_left
    · cases h
    rename_i hc
    rw [if_pos hc]
    obtain ⟨b, hb, h⟩ := Option.bind_eq_some_iff.mp h
    rw [bestF_mono _ _ _ _ _ _ hb]
    simp only [Option.bind_some]
    split at h
    · rename_i hd; rw [if_pos hd]; exact ih _ _ _ h
    · rename_i hd; rw [if_neg hd]; exact ih _ _ _ h
theorem roundsF_mono (K : Nat) (T : List Int) (P : List (List Int)) (ord : List Int) : ∀ R D r, roundsF K T P ord R D = some r → roundsF (K + 1) T P ord (R + 1) D = some r := by
  intro R
  induction R with
  | zero => intro D r h; cases h
  | succ R ih =>
    intro D r h
    rw [roundsF] at h ⊢
    obtain ⟨p, hp, h⟩ := Option.bind_eq_some_iff.mp h
    rw [passF_mono _ _ _ _ _ _ _ hp]
    simp only [Option.bind_some]
    split at h
    · rename_i hd; rw [if_pos hd]; exact ih _ _ h
    · rename_i hd; rw [if_neg hd]; exact h
end DomA
theorem dom_Idom.mono : ∀ a0 k, LeO (dom_Idom.f k a0) (dom_Idom.f (k + 1) a0) := by
  intro a0 k r h
  unfold dom_Idom.f at h ⊢
  split at h
  rotate_left
  · cases h
  rename_i hc
  rw [if_pos hc]
  obtain ⟨ord, ho, h⟩ := Option.bind_eq_some_iff.mp h
  rw [ho]
  simp only [Option.bind_some]
  unfold idomF at h ⊢
  split at h
  · rename_i hd; rw [if_pos hd]; exact h
  · rename_i hd
    rw [if_neg hd]
    obtain ⟨TP, ht, h⟩ := Option.bind_eq_some_iff.mp h
    rw [ht]
    simp only [Option.bind_some]
    obtain ⟨Df, hD, h⟩ := Option.map_eq_some_iff.mp h
    rw [roundsF_mono _ _ _ _ _ _ _ hD, ← h]
    rfl
end Go.Proofs.YtfiffhcpgojkhaaDoor
