/- slices.SortFunc (with the closure of loop.Backs) and slices.Compact at [][2]int, in the printed texts' form: a row of the call's own that is handed over. No condition but that the row is short. -/
import Derived.Test.YtfiffhcpgojkhaaDoorQLoopNestsx0
import Derived.Test.YtfiffhcpgojkhaaDoorSrt
namespace Go.Proofs.YtfiffhcpgojkhaaDoor.QLoopNests
open Go.RowKit Go.Lib Go.Sort Go.Proofs.YtfiffhcpgojkhaaDoor Go.Proofs.YtfiffhcpgojkhaaDoor.Srt Go.Proofs.YtfiffhcpgojkhaaDoorW.PrintWords Go.Proofs.YtfiffhcpgojkhaaDoorW.PrintLast Go.Proofs.YtfiffhcpgojkhaaDoorW.PrintMore
set_option linter.unusedVariables false
set_option linter.unusedSimpArgs false
def pr (x : S29) : Int × Int := (x.f0, x.f1)
def un (p : Int × Int) : S29 := ⟨p.1, p.2⟩
theorem pr_un (l : List (Int × Int)) : (l.map un).map pr = l := by
  rw [List.map_map]
  exact (List.map_congr_left (fun x _ => rfl)).trans (List.map_id l)
def sortP (l : List (Int × Int)) : List (Int × Int) := l.mergeSort fun x y => !(Go.Proofs.ltOf cf2) y x
def slices_SortFunc_2_int_2_int.f (l0 : List (S29)) : Option (List (S29)) := if l0.length < 4611686018427387904 then some ((sortP (l0.map pr)).map un) else none
def slices_Compact_2_int_2_int.f (l0 : List (S29)) : Option (List (S29)) := if l0.length < 4611686018427387904 then some ((compactUpTo (l0.map pr).toArray l0.length).map un) else none
theorem kM (w : World) (base : Nat) (ok : Nat → Prop) (x : S29) (cs : List Value) : k29.M w base ok x cs ↔ cs = enc2 (pr x) := by
  constructor
  · exact fun h => k29_openM h
  · rintro rfl; exact k29_mkM w base ok x
theorem repsK {M : S29 → List Value → Prop} (hM : ∀ x cs, M x cs ↔ cs = enc2 (pr x)) : ∀ xs : List (S29), Reps M 2 xs (flat2 (xs.map pr))
  | [] => Reps.none _ _
  | x :: xs => by
    have h1 : Reps M 2 [x] (enc2 (pr x)) := ⟨by simp [enc2], fun j p hj => by
      cases j with
      | zero => simp at hj; subst hj; rw [hM]; simp [enc2]
      | succ j => simp at hj⟩
    have := Kd.reps_append h1 (repsK hM xs)
    simpa [flat2] using this
theorem repsK_inv {M : S29 → List Value → Prop} (hM : ∀ x cs, M x cs ↔ cs = enc2 (pr x)) : ∀ (xs : List (S29)) (inner : List Value), Reps M 2 xs inner → inner = flat2 (xs.map pr)
  | [], inner, h => by have := h.1; simpa [flat2] using this
  | x :: xs, inner, h => by
    have h0 := h.2 0 x rfl
    rw [hM] at h0
    have h1 := repsK_inv hM xs _ (Kd.reps_drop (m := 1) h)
    rw [← List.take_append_drop 2 inner]
    rw [show inner.take 2 = enc2 (pr x) by simpa using h0, show inner.drop 2 = flat2 (xs.map pr) by simpa using h1]
    simp [flat2]
theorem ownK {e : Nat} {w : World} {base : Nat} {ok : Nat → Prop} {v : Value} {xs : List (S29)} (h : k29.R e w base ok v xs) : w.ownsRow base e 2 v xs.length (flat2 (xs.map pr)) := by
  obtain ⟨_, inner, ho, hr⟩ := h
  rw [← repsK_inv (fun x cs => kM _ _ _ x cs) xs inner hr]
  exact ho
theorem ofK {e : Nat} {w : World} {base : Nat} {ok : Nat → Prop} {v : Value} {xs : List (S29)} (ho : w.ownsRow base e 2 v xs.length (flat2 (xs.map pr))) (hok : ∀ k, v.ownBlock = some k → ok k) : k29.R e w base ok v xs := ⟨hok, flat2 (xs.map pr), ho, repsK (fun x cs => kM _ _ _ x cs) xs⟩
theorem compact_none (w : World) : Calls Tryd.prog 22 #[.slice none 0 0] w fun e w' => e = .returned (.slice none 0 0) ∧ w' = w := by
  go_enter Tryd.func22, Tryd.ntmps22
  go_wp2
  go_ret
  exact ⟨rfl, rfl⟩
theorem compactUpTo_le {α : Type} [Inhabited α] [DecidableEq α] (d : Array α) (m : Nat) : (compactUpTo d m).length ≤ m := by
  unfold compactUpTo
  rw [List.length_map]
  exact Nat.le_trans (List.length_filter_le _ _) (by simp)
theorem sorted_total : ∀ x y : Int × Int, Go.Proofs.ltOf cf2 x y = false → Go.Proofs.ltOf cf2 y x = false → x = y := by
  intro x y
  rw [ltOf2, lt2_not, lt2_not]
  intro h1 h2
  apply Prod.ext
  · omega
  · omega
theorem slices_SortFunc_2_int_2_int.calls (P0_ : Nat → Prop) (u9000_ : Value) (l0 : List (S29)) (r : List (S29)) (w0 w : World) (hB : Below w0.heap.size w0 w) (ho0 : Kd.R k29 29 w w0.heap.size P0_ u9000_ l0) (h : slices_SortFunc_2_int_2_int.f l0 = some r) :
    Calls Tryd.prog 18 #[u9000_, .func (.func 19) #[] #[]] w fun e w' => e = .returned (.tuple #[]) ∧ Kd.R k29 29 w' w0.heap.size (fun k_ => (P0_ k_ ∨ w.heap.size ≤ k_)) u9000_ r ∧ Below w0.heap.size w0 w' ∧ Kept w w' (fun k_ => P0_ k_) := by
  unfold slices_SortFunc_2_int_2_int.f at h
  split at h
  rotate_left
  · cases h
  rename_i hlen
  have hr := (Option.some.inj h).symm
  have own := ownK ho0
  rcases own.2 with ⟨rfl, hn⟩ | ⟨g, cap, cur, rfl, hbase, hg, hle, hcap, hsz, ht⟩
  · have e0 : l0 = [] := List.eq_nil_of_length_eq_zero hn
    subst e0
    have hr2 : r = [] := by rw [hr]; simp [sortP]
    subst hr2
    refine (Tryd.slices_SortFunc_none (α := Int × Int) none 0 _ w).mono ?_
    rintro e w' ⟨rfl, rfl⟩
    exact ⟨rfl, Kd.R_nil _ _ _ _ _, hB, Kept.refl _ _⟩
  · have hlt : g < w.heap.size := (Array.getElem?_eq_some_iff.1 hg).1
    have hH : HoldsK enc2 2 w g 0 (l0.map pr).toArray := by
      unfold HoldsK
      rw [flatK2]
      exact holds_of hg (by rw [flat2_len, List.length_map]; exact ht)
    have hs := Tryd.slices_SortFunc_total 2 (fun _ => by kernel_rfl) (fun _ => by kernel_rfl) enc2 hk2 hone2 cf2 swo2 19 #[] g 0 cap (l0.map pr).toArray w (enters_of Tryd.func19 (by kernel_rfl) rfl) (fun m os dk _ x y => closure x y _) hH hlt (by simpa using hlen) sorted_total
    rw [List.size_toArray, List.length_map] at hs
    refine hs.mono ?_
    rintro e w' ⟨rfl, n, os, rfl⟩
    have hts : (flat2 (sortP (l0.map pr))).length = l0.length * 2 := by rw [flat2_len, sortP, List.length_mergeSort, List.length_map]
    have ew : sortWorldK enc2 2 w g 0 n ((l0.map pr).mergeSort fun x y => !(Go.Proofs.ltOf cf2) y x).toArray os = grow (putRow id (Sort.ahead w n) g 0 (flat2 (sortP (l0.map pr))).toArray) os := by
      unfold sortWorldK putRowK
      rw [flatK2]
      rfl
    rw [ew]
    have hl : r.length = l0.length := by rw [hr, List.length_map, sortP, List.length_mergeSort, List.length_map]
    have hgr : w.grownBy (grow (putRow id (Sort.ahead w n) g 0 (flat2 (sortP (l0.map pr))).toArray) os) (some g) := grownBy_put _
    refine ⟨rfl, ?_, hB.grown hgr hB.size (fun k e => by injection e with e; omega), Kept.of_grown hgr (Kept.refl _ _) (fun k e => by injection e with e; subst e; exact .inl (ho0.1 g rfl))⟩
    have ho := own_put (w := w) (base := w0.heap.size) (q := n) (os := os) (ts := flat2 (sortP (l0.map pr))) (m := l0.length) hts hbase hg hle (Nat.le_refl _) hcap hsz
    rw [List.take_of_length_le (by omega)] at ho
    rw [← hl] at ho ⊢
    refine ofK ?_ (fun k e => .inl (ho0.1 k (by rw [← hl]; exact e)))
    rw [hr, pr_un, ← hr]
    exact ho
theorem slices_Compact_2_int_2_int.calls (P0_ : Nat → Prop) (u9000_ : Value) (l0 : List (S29)) (r : List (S29)) (w0 w : World) (hB : Below w0.heap.size w0 w) (ho0 : Kd.R k29 29 w w0.heap.size P0_ u9000_ l0) (h : slices_Compact_2_int_2_int.f l0 = some r) :
    Calls Tryd.prog 22 #[u9000_] w fun e w' => ∃ v0_ : Value, e = .returned (v0_) ∧ Kd.R k29 29 w' w0.heap.size (fun k_ => (P0_ k_ ∨ w.heap.size ≤ k_)) v0_ r ∧ Below w0.heap.size w0 w' ∧ Kept w w' (fun k_ => P0_ k_) := by
  unfold slices_Compact_2_int_2_int.f at h
  split at h
  rotate_left
  · cases h
  rename_i hlen
  have hr := (Option.some.inj h).symm
  have own := ownK ho0
  rcases own.2 with ⟨rfl, hn⟩ | ⟨g, cap, cur, rfl, hbase, hg, hle, hcap, hsz, ht⟩
  · have e0 : l0 = [] := List.eq_nil_of_length_eq_zero hn
    subst e0
    have hr2 : r = [] := by rw [hr]; rfl
    subst hr2
    refine (compact_none w).mono ?_
    rintro e w' ⟨rfl, rfl⟩
    exact ⟨_, rfl, Kd.R_nil _ _ _ _ _, hB, Kept.refl _ _⟩
  · have hlt : g < w.heap.size := (Array.getElem?_eq_some_iff.1 hg).1
    have hH : HoldsK enc2 2 w g 0 (l0.map pr).toArray := by
      unfold HoldsK
      rw [flatK2]
      exact holds_of hg (by rw [flat2_len, List.length_map]; exact ht)
    have hs := compact_arr g 0 cap (l0.map pr).toArray w hH (by simp; omega) (by simpa using hle)
    rw [List.size_toArray, List.length_map] at hs
    refine hs.mono ?_
    rintro e w' ⟨rfl, q, rfl⟩
    have hcl : (compactUpTo (l0.map pr).toArray l0.length).length ≤ l0.length := compactUpTo_le _ _
    generalize hcz : compactUpTo (l0.map pr).toArray l0.length = cz at *
    have ew : putRowK enc2 2 (Sort.ahead w q) g 0 (cz ++ List.replicate (l0.length - cz.length) zp).toArray = grow (putRow id (Sort.ahead w q) g 0 (flat2 (cz ++ List.replicate (l0.length - cz.length) zp)).toArray) #[] := by
      unfold putRowK
      rw [flatK2, grow_empty]
    rw [ew]
    have hl : r.length = cz.length := by rw [hr, List.length_map]
    have hgr : w.grownBy (grow (putRow id (Sort.ahead w q) g 0 (flat2 (cz ++ List.replicate (l0.length - cz.length) zp)).toArray) #[]) (some g) := grownBy_put _
    have ho := own_put (w := w) (base := w0.heap.size) (q := q) (os := #[]) (ts := flat2 (cz ++ List.replicate (l0.length - cz.length) zp)) (n := l0.length) (m := cz.length) (by rw [flat2_len, List.length_append, List.length_replicate]; congr 1; omega) hbase hg hle hcl hcap hsz
    have et : (flat2 (cz ++ List.replicate (l0.length - cz.length) zp)).take (cz.length * 2) = flat2 cz := by
      rw [← flat2_len cz]
      simp [flat2]
    rw [et] at ho
    refine ⟨_, rfl, ?_, hB.grown hgr hB.size (fun k e => by injection e with e; omega), Kept.of_grown hgr (Kept.refl _ _) (fun k e => by injection e with e; subst e; exact .inl (ho0.1 g rfl))⟩
    rw [← hl] at ho ⊢
    refine ofK ?_ (fun k e => .inl (ho0.1 k e))
    rw [hr, pr_un, ← hr]
    exact ho
end Go.Proofs.YtfiffhcpgojkhaaDoor.QLoopNests
