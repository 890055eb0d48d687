/- expr.each with the closure of expr.Size, by hand; this one in the printed texts' form. No condition. -/
import Derived.Test.YtfioegoeeflkbaaDoorQExprTypesx0
import Derived.Lib.Hide
import Derived.Laws.EntriesVeiled
import Derived.Laws.ByValue
namespace Go.Proofs.YtfioegoeeflkbaaDoor.QExprTypes
open Go.RowKit Go.Proofs.YtfioegoeeflkbaaDoorW.PrintWords Go.Proofs.YtfioegoeeflkbaaDoorW.PrintLast
set_option maxRecDepth 10000
set_option linter.unusedSimpArgs false
set_option linter.unusedVariables false
/-- All blocks but g stay. -/
def Kp (g : Nat) (w w' : World) : Prop := w.heap.size ≤ w'.heap.size ∧ ∀ i, i < w.heap.size → i ≠ g → w'.heap[i]? = w.heap[i]?
theorem Kp.refl (g : Nat) (w : World) : Kp g w w := ⟨Nat.le_refl _, fun _ _ _ => rfl⟩
theorem Kp.trans {g : Nat} {w w1 w2 : World} (h : Kp g w w1) (h' : Kp g w1 w2) : Kp g w w2 := ⟨Nat.le_trans h.1 h'.1, fun i hi hg => (h'.2 i (Nat.lt_of_lt_of_le hi h.1) hg).trans (h.2 i hi hg)⟩
theorem Kp.alloc (g : Nat) (w : World) (o : Obj) : Kp g w (w.alloc o) := ⟨by simp, fun i hi _ => Below.heap_alloc w o i hi⟩
theorem Kp.set (g : Nat) (w : World) (u : Value) : Kp g w (w.setCell ⟨g, 0, none⟩ u) := ⟨by simp, fun i _ hg => Below.heap_setCell w ⟨g, 0, none⟩ u i hg⟩
theorem Kp.cell {g : Nat} {w w' : World} (h : Kp g w w') {b o : Nat} {v : Value} (hb : b < w.heap.size) (hg : b ≠ g) (hc : w.cell? ⟨b, o, none⟩ = some v) : w'.cell? ⟨b, o, none⟩ = some v := by
  rw [← hc]
  simp only [World.cell?, h.2 b hb hg]
/-- Block g, laid behind w0, holds v; what w0 had stays. -/
def Cnt (w0 : World) (g t : Nat) (v : Value) (w : World) : Prop := Below w0.heap.size w0 w ∧ w0.heap.size ≤ g ∧ w.heap[g]? = some (.cells #[v] t (0, 0))
theorem Cnt.lt {w0 : World} {g t : Nat} {v : Value} {w : World} (h : Cnt w0 g t v w) : g < w.heap.size := (Array.getElem?_eq_some_iff.1 h.2.2).1
theorem Cnt.alloc {w0 : World} {g t : Nat} {v : Value} {w : World} (h : Cnt w0 g t v w) (o : Obj) : Cnt w0 g t v (w.alloc o) := ⟨h.1.alloc h.1.size o, h.2.1, (Below.heap_alloc w o g h.lt).trans h.2.2⟩
theorem Cnt.set {w0 : World} {g t : Nat} {v : Value} {w : World} (h : Cnt w0 g t v w) (u : Value) : Cnt w0 g t u (w.setCell ⟨g, 0, none⟩ u) := ⟨h.1.setCell h.2.1 _, h.2.1, blk_set h.2.2 0 u⟩

def stepZ (s : Int) (_ _ _ _ : Int) : Int := wrap64 (s + 1)
theorem cloZ (g : Nat) (w0 : World) (s a0 a1 a2 a3 : Int) (v : Value) (w : World) (h : Cnt w0 g 3 (.int .i64 s) w) (hv : v.oneCell' = true := by rfl) :
    Calls Tryd.prog 98 #[.agg #[.int .i64 a0, .int .i64 a1, .int .i64 a2, .int .i64 a3, v], .pointer (some ⟨g, 0, none⟩)] w fun e w' => e = .returned (.tuple #[]) ∧ Cnt w0 g 3 (.int .i64 (stepZ s a0 a1 a2 a3)) w' ∧ Kp g w w' := by
  have hc : w.cell? ⟨g, 0, none⟩ = some (.int .i64 s) := (blk_cell h.2.2 0).trans rfl
  have hf := blk_frozen h.2.2 0
  have hl := h.lt
  have HH := Aside0.mk h
  clear h
  go_enter Tryd.func98, Tryd.ntmps98
  go_wp2
  go_end0
  exact ⟨rfl, (HH.out.set _).alloc _, (Kp.set g w _).trans (Kp.alloc g _ _)⟩

mutual
def foldSZ : Int → S30 → Int
  | s, ⟨a0, a1, a2, a3, l⟩ => foldLZ (stepZ s a0 a1 a2 a3) l
def foldLZ : Int → List S30 → Int
  | s, [] => s
  | s, x :: xs => foldLZ (foldSZ s x) xs
end
theorem foldLZ_snoc (xs : List S30) (x : S30) : ∀ s, foldLZ s (xs ++ [x]) = foldSZ (foldLZ s xs) x := by
  induction xs with
  | nil => intro s; simp [foldLZ]
  | cons y ys ih => intro s; simp only [List.cons_append, foldLZ]; exact ih _
theorem foldSZ_eq (s : Int) (x : S30) : foldSZ s x = foldLZ (stepZ s x.f0 x.f1 x.f2 x.f3) x.f4 := by
  obtain ⟨a0, a1, a2, a3, l⟩ := x
  simp only [foldSZ]
set_option maxHeartbeats 2000000 in
theorem eachZ_any (g : Nat) (w0 : World) : ∀ (n : Nat) (a0 a1 a2 a3 : Int) (A : Option Addr) (c : Nat) (l : List S30) (s : Int) (w : World), SizeOf.sizeOf l ≤ n → Kd.C k30 w0 A l.length l → l.length ≤ c → Cnt w0 g 3 (.int .i64 s) w →
    Calls Tryd.prog 97 #[.agg #[.int .i64 a0, .int .i64 a1, .int .i64 a2, .int .i64 a3, .slice A l.length c], .func (Fn.func 98) #[] #[.pointer (some ⟨g, 0, none⟩)]] w fun e w' => e = .returned (.tuple #[]) ∧ Cnt w0 g 3 (.int .i64 (foldLZ (stepZ s a0 a1 a2 a3) l)) w' ∧ Kp g w w' := by
  intro n
  induction n with
  | zero => intro a0 a1 a2 a3 A c l s w hn; exact absurd hn (by cases l <;> simp)
  | succ n ih =>
    intro a0 a1 a2 a3 A c l s w hn hK hc hC
    have hu55 := Tryd.underlying30
    have HK := Aside0.mk hK
    have HC0 := Aside0.mk hc
    have HCn := Aside0.mk hC
    have HN := Aside0.mk hn
    have hlen : l.length ≤ 9223372036854775807 := by have := hK.2.1; exact this
    clear hK hc hC hn
    have clo := fun (W : World) (h : Cnt w0 g 3 (.int .i64 s) W) => cloZ g w0 s a0 a1 a2 a3 (.slice A l.length c) W h
    have hg := HCn.out.lt
    have HG := Aside0.mk hg
    clear hg
    go_enter Tryd.func97, Tryd.ntmps97
    go_wp2_with (go_at_call 98; refine (clo _ (HCn.out.alloc _)).mono ?_; rintro e w2 ⟨rfl, h2, k2⟩; have bx : w2.cell? ⟨w.heap.size, 4, none⟩ = some (.slice A l.length c) := Kp.cell k2 (by simp) (by have := HG.out; omega) (by go_simp); have H2 := Aside0.mk h2; have K2 := Aside0.mk ((Kp.alloc g w _).trans k2); clear h2 k2)
    go_loopw [12] (fun vi wr => ∃ i : Nat, vi = .int .i64 (i : Int) ∧ i ≤ l.length ∧ Aside0 (Cnt w0 g 3 (.int .i64 (foldLZ (stepZ s a0 a1 a2 a3) (l.take i))) wr ∧ Kp g w wr)) (fun vi _ => l.length - (intOf vi).toNat)
    case atStart => exact ⟨0, rfl, Nat.zero_le _, Aside0.mk ⟨by simpa [foldLZ] using H2.out, K2.out⟩⟩
    case round =>
      obtain ⟨i, rfl, hi, inv⟩ := hrel
      by_cases hlt : i < l.length
      · obtain ⟨ad, A4, c4, e4, x0, x1, x2, x3, x4, hl4, hi4⟩ := at_T30 HK.out (i : Int) (by omega) (by omega)
        cases e4
        have hb := inv.out.1.1
        replace x0 := (hb.cell (World.block_lt_of_cell? w0 _ x0)).trans x0
        replace x1 := (hb.cell (World.block_lt_of_cell? w0 _ x1)).trans x1
        replace x2 := (hb.cell (World.block_lt_of_cell? w0 _ x2)).trans x2
        replace x3 := (hb.cell (World.block_lt_of_cell? w0 _ x3)).trans x3
        replace x4 := (hb.cell (World.block_lt_of_cell? w0 _ x4)).trans x4
        clear hb
        rw [Int.toNat_natCast] at x0 x1 x2 x3 x4
        have hrd : rd_T30 l (i : Int) = l[i] := by simp [rd_T30, List.getD_eq_getElem?_getD, List.getElem?_eq_getElem hlt]
        have HRD := Lib.hid hrd
        clear hrd
        have hsz : SizeOf.sizeOf (rd_T30 l (i : Int)).f4 ≤ n := by
          rw [HRD.out]
          have h1 := List.sizeOf_lt_of_mem (List.getElem_mem hlt)
          have h2 : SizeOf.sizeOf (l[i]).f4 < SizeOf.sizeOf l[i] := by
            cases hq : l[i] with | mk a b c d e => simp; omega
          have := HN.out
          omega
        have call := fun (W : World) (h : Cnt w0 g 3 (.int .i64 (foldLZ (stepZ s a0 a1 a2 a3) (l.take i))) W) => ih (rd_T30 l (i : Int)).f0 (rd_T30 l (i : Int)).f1 (rd_T30 l (i : Int)).f2 (rd_T30 l (i : Int)).f3 A4 c4 (rd_T30 l (i : Int)).f4 _ W hsz hi4 hl4 h
        clear hsz hi4 hl4
        have hq0 : 0 ≤ (i : Int) := by omega
        have hq1 : (i : Int) < (l.length : Int) := by omega
        have b0 : decide ((i : Int) < (l.length : Int)) = true := decide_eq_true hq1
        go_wp2_with (go_at_call 97; refine (call _ (inv.out.1.alloc _)).mono ?_; rintro e w3 ⟨rfl, h3, k3⟩)
        go_roundw
        case rel =>
          refine ⟨i + 1, by go_num, by omega, Aside0.mk ⟨?_, (inv.out.2.trans (Kp.alloc g _ _)).trans k3⟩⟩
          rw [List.take_succ_eq_append_getElem hlt, foldLZ_snoc, foldSZ_eq, ← HRD.out]
          exact h3
        case measure => simp [intOf]; omega
      · obtain rfl : i = l.length := by omega
        go_wp2
        go_end0
        exact ⟨rfl, by have := inv.out.1; rwa [List.take_length] at this, inv.out.2⟩

def expr_Size.f (a0_0 a0_1 a0_2 a0_3 : Int) (l0_4 : List S30) : Option Int := some (foldLZ (stepZ 0 a0_0 a0_1 a0_2 a0_3) l0_4)
theorem expr_Size.calls (a0_0 a0_1 a0_2 a0_3 : Int) (A0_4 : Option Addr) (c0_4 : Nat) (l0_4 : List S30) (r : Int) (w : World) (hr0_4 : Kd.C k30 w A0_4 l0_4.length l0_4) (hc0_4 : l0_4.length ≤ c0_4) (h : expr_Size.f a0_0 a0_1 a0_2 a0_3 l0_4 = some r) :
    Calls Tryd.prog 61 #[.agg #[.int .i64 a0_0, .int .i64 a0_1, .int .i64 a0_2, .int .i64 a0_3, .slice A0_4 l0_4.length c0_4]] w fun e w' => e = .returned (.int .i64 r) ∧ Below w.heap.size w w' := by
  obtain rfl := Option.some.inj h
  clear h
  have hmf : ∀ (fn : Fn) (first cap : Array Value) (w : World), (Instr.makeFunc fn first cap).run Tryd.prog w = .ok (.func fn first cap) w := fun _ _ _ _ => rfl
  have HR := Aside0.mk hr0_4
  have HC := Aside0.mk hc0_4
  clear hr0_4 hc0_4
  have call := fun (g : Nat) (W : World) (hC : Cnt w g 3 (.int .i64 0) W) => eachZ_any g w (SizeOf.sizeOf l0_4) a0_0 a0_1 a0_2 a0_3 A0_4 c0_4 l0_4 0 W (Nat.le_refl _) HR.out HC.out hC
  go_enter Tryd.func61, Tryd.ntmps61
  go_wp2_with (go_at_call 97; refine (call (w.heap.size + 1) _ ⟨((Below.refl _ _).alloc (Nat.le_refl _) _).alloc (by simp) _, by omega, heap_alloc2_new w _ _⟩).mono ?_; rintro e w2 ⟨rfl, h2, _⟩; have hc2 : w2.cell? ⟨w.heap.size + 1, 0, none⟩ = some (.int .i64 (foldLZ (stepZ 0 a0_0 a0_1 a0_2 a0_3) l0_4)) := (blk_cell h2.2.2 0).trans rfl; have HB := Aside0.mk h2.1; clear h2)
  go_ret
  exact ⟨rfl, HB.out⟩
end Go.Proofs.YtfioegoeeflkbaaDoor.QExprTypes
