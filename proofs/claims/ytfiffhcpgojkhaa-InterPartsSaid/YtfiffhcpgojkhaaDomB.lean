/- dom.Order by hand, over its closure. No condition. -/
import Derived.Test.YtfiffhcpgojkhaaDomA
import Derived.Deep.RegionHeld3
namespace Go.Proofs.Ytfiffhcpgojkhaa
open Go.RowKit Go.Proofs.YtfiffhcpgojkhaaW.PrintWords Go.Proofs.YtfiffhcpgojkhaaW.PrintLast Go.Proofs.YtfiffhcpgojkhaaW.PrintMore Go.Proofs.Ytfiffhcpgojkhaa.DomF
set_option linter.unusedVariables false
set_option linter.unusedSimpArgs false
namespace DomA
/-- The list of what is done, turned about at both ends up to i. -/
def RL (D : List Int) (i : Nat) (L : List Int) : Prop := L.length = D.length ∧ ∀ q, q < D.length → L.getD q 0 = if q < i ∨ D.length - 1 - q < i then D.getD (D.length - 1 - q) 0 else D.getD q 0
theorem RL.zero (D : List Int) : RL D 0 D := ⟨rfl, fun q _ => by rw [if_neg (by omega)]⟩
theorem getD_set_ (L : List Int) (i q : Nat) (x : Int) (hi : i < L.length) : (L.set i x).getD q 0 = if q = i then x else L.getD q 0 := by
  by_cases h : q = i
  · subst h; simp [List.getD_eq_getElem?_getD, hi]
  · rw [if_neg h]; simp [List.getD_eq_getElem?_getD, List.getElem?_set, Ne.symm h]
theorem RL.step {D L : List Int} {i : Nat} (h : RL D i L) (hi : i < D.length - 1 - i) : RL D (i + 1) ((L.set i (L.getD (D.length - 1 - i) 0)).set (D.length - 1 - i) (L.getD i 0)) := by
  obtain ⟨hl, h⟩ := h
  refine ⟨by simpa using hl, fun q hq => ?_⟩
  rw [getD_set_ _ _ _ _ (by rw [List.length_set]; omega), getD_set_ _ _ _ _ (by omega)]
  have h1 := h i (by omega)
  have h2 := h (D.length - 1 - i) (by omega)
  have h3 := h q hq
  rw [if_neg (by omega)] at h1 h2
  by_cases e1 : q = D.length - 1 - i
  · rw [if_pos e1, if_pos (by omega), h1, e1]
    congr 1
    omega
  · rw [if_neg e1]
    by_cases e2 : q = i
    · subst e2
      rw [if_pos rfl, if_pos (by omega), h2]
    · rw [if_neg e2, h3]
      by_cases c : q < i ∨ D.length - 1 - q < i
      · rw [if_pos c, if_pos (by omega)]
      · rw [if_neg c, if_neg (by omega)]
theorem RL.done {D L : List Int} {i : Nat} (h : RL D i L) (hi : ¬ i < D.length - 1 - i) : L = D.reverse := by
  obtain ⟨hl, h⟩ := h
  apply List.ext_getElem (by simpa using hl)
  intro q hq hq2
  have h3 := h q (by omega)
  have e1 : L.getD q 0 = L[q] := by simp [List.getD_eq_getElem?_getD, hq]
  have hq3 : D.length - 1 - q < D.length := by omega
  have e2 : D.getD (D.length - 1 - q) 0 = D.reverse[q] := by simp [List.getD_eq_getElem?_getD, hq3]
  rw [← e1, ← e2, h3]
  by_cases c : q < i ∨ D.length - 1 - q < i
  · rw [if_pos c]
  · rw [if_neg c]
    congr 1
    omega
theorem os_start {w w3 : World} {bm bn rm cm n c0 : Nat} {A0 : Option Addr} (HB : Below w.heap.size w w3) (hbn : w3.heap[bn]? = some (.cells #[.slice A0 n c0] 22 (0, 0))) (hbm : w3.heap[bm]? = some (.cells #[.slice none 0 0] 25 (0, 0)))
    (hrm : Kd.R Kd.bool 4 w3 w.heap.size (fun _ => True) (.slice (some ⟨rm, 0, none⟩) n cm) (List.replicate n false)) (lo : w.heap.size ≤ bm) :
    OS w ⟨bm, bn, w3.heap.size + 1, w3.heap.size, rm, cm, A0, n, c0⟩ (List.replicate n false) [] (((w3.setCell ⟨bm, 0, none⟩ (.slice (some ⟨rm, 0, none⟩) n cm)).alloc (.cells #[.slice none 0 0] 27)).alloc
      (.cells #[.func (.func 84) #[] #[.pointer (some ⟨bm, 0, none⟩), .pointer (some ⟨bn, 0, none⟩), .pointer (some ⟨w3.heap.size + 1, 0, none⟩), .pointer (some ⟨w3.heap.size, 0, none⟩)]] 88)) := by
  have hs : (w3.setCell ⟨bm, 0, none⟩ (.slice (some ⟨rm, 0, none⟩) n cm)).heap.size = w3.heap.size := by simp [World.setCell]
  have k1 := blk_put hbm 0 (.slice (some ⟨rm, 0, none⟩) n cm) rfl
  have k2 := blk_far hbn (p := ⟨bm, 0, none⟩) (ne_of_type hbn hbm (by decide)) (.slice (some ⟨rm, 0, none⟩) n cm)
  have k3 : Kd.R Kd.bool 4 (w3.setCell ⟨bm, 0, none⟩ (.slice (some ⟨rm, 0, none⟩) n cm)) w.heap.size (fun _ => True) (.slice (some ⟨rm, 0, none⟩) n cm) (List.replicate n false) :=
    Kd.R_over' (v := .slice (some ⟨bm, 0, none⟩) 1 1) hrm (fun k hk => by cases hk; exact ⟨_, hbm⟩) (by decide) ⟨rfl, rfl, rfl, by simp [World.setCell], fun k _ hk => Below.heap_setCell _ _ _ k (fun e => hk (by rw [e]; rfl))⟩
  have k4 : Below w.heap.size w (w3.setCell ⟨bm, 0, none⟩ (.slice (some ⟨rm, 0, none⟩) n cm)) := below_set HB lo
  generalize (w3.setCell ⟨bm, 0, none⟩ (.slice (some ⟨rm, 0, none⟩) n cm)) = w4 at *
  rw [← hs]
  have n1 : (w4.alloc (.cells #[.slice none 0 0] 27)).heap[w4.heap.size]? = some (.cells #[.slice none 0 0] 27 (0, 0)) := blk_new w4 _
  have s1 : (w4.alloc (.cells #[.slice none 0 0] 27)).heap.size = w4.heap.size + 1 := Array.size_push _
  have b1 : Below w4.heap.size w4 (w4.alloc (.cells #[.slice none 0 0] 27)) := below_alloc (Below.refl _ _) _
  have j1 := blk_below k1 b1
  have j2 := blk_below k2 b1
  have j3 := Kd.R_alloc k3 (.cells #[.slice none 0 0] 27)
  have j4 := below_alloc k4 (.cells #[.slice none 0 0] 27)
  have hsz := below_size k4
  generalize (w4.alloc (.cells #[.slice none 0 0] 27)) = w5 at *
  rw [← s1]
  have b2 := fun o : Obj => (below_alloc (Below.refl w5.heap.size w5) o)
  exact ⟨below_alloc j4 _, blk_below j1 (b2 _), blk_below j2 (b2 _), blk_new w5 _, ⟨_, blk_below n1 (b2 _), Kd.R_nil _ _ _ _ _⟩, Kd.R_alloc j3 _, hsz⟩
end DomA
open DomA
def dom_Order.f (l0 : List (List Int)) : Option (List Int) := if l0.length ≤ 281474976710656 ∧ (l0.all fun l => decide (l.length < 4611686018427387904)) = true then (orderF l0).bind fun r => if r.length ≤ 17592186044416 then some r else none else none
set_option maxHeartbeats 8000000 in
set_option maxRecDepth 100000 in
theorem dom_Order.calls (A0 : Option Addr) (c0 : Nat) (l0 : List (List Int)) (r : List Int) (w : World) (hr0 : Kd.C (Kd.slice 3 (Kd.int .i64)) w A0 l0.length l0) (hc0 : l0.length ≤ c0) (h : dom_Order.f l0 = some r) :
    Calls Try.prog 72 #[.slice A0 l0.length c0] w fun e w' => ∃ v0_ : Value, e = .returned v0_ ∧ Kd.R (Kd.int .i64) 3 w' w.heap.size (fun _ => True) v0_ r ∧ Below w.heap.size w w' := by
  unfold dom_Order.f at h
  split at h
  rotate_left
  · cases h
  rename_i hg
  obtain ⟨hg1, hg2⟩ := hg
  obtain ⟨r', ho, h⟩ := Option.bind_eq_some_iff.mp h
  split at h
  rotate_left
  · cases h
  rename_i hg3
  obtain rfl := Option.some.inj h
  unfold orderF at ho
  by_cases hz : l0.length = 0
  · rw [if_pos hz] at ho
    obtain rfl := Option.some.inj ho
    have z0 : ((l0.length : Int) == 0) = true := beq_iff_eq.mpr (by omega)
    have z1 : (l0.length : Int) = 0 := by omega
    have HB := Aside0.mk (Below.refl w.heap.size w)
    clear ho h hg1 hg2 hg3
    go_enter Try.func72, Try.ntmps72
    go_wp2_with ((with_reducible refine gate_dst (N := 1) rfl ?_); refine box_event ?hg (N := 1) ?hd (cs := #[.slice A0 l0.length c0]) (t := 22) ?hr ?_; (case hd => rfl); (case hg => rfl); (case hr => first | (go_simp; done) | (go_simp; rfl)); intro gb hgb w1 hbox hb1; have f1 : w1.cell? ⟨gb, 0, none⟩ = some (.slice A0 l0.length c0) := (blk_cell hbox 0).trans rfl; have HB1 := Aside0.mk hb1; clear hbox hb1 hgb)
    go_ret
    exact ⟨_, rfl, Kd.R_nil _ _ _ _ _, HB1.out⟩
  · rw [if_neg hz] at ho
    obtain ⟨⟨M1, D1⟩, hq, ho⟩ := Option.map_eq_some_iff.mp ho
    subst ho
    have z0 : ((l0.length : Int) == 0) = false := beq_eq_false_iff_ne.mpr (by omega)
    have z1 : ¬ ((l0.length : Int) = 0) := by omega
    have z2 : decide (0 ≤ (l0.length : Int)) = true := decide_eq_true (by omega)
    have z3 : decide ((l0.length : Int).toNat ≤ 281474976710656) = true := decide_eq_true (by omega)
    have z4 : (0 ≤ (l0.length : Int)) = True := eq_true (by omega)
    have z5 : ((l0.length : Int).toNat ≤ 281474976710656) = True := eq_true (by omega)
    have hlen : ∀ i, (l0.getD i []).length < 4611686018427387904 := by
      intro i
      by_cases hi : i < l0.length
      · have := List.all_eq_true.mp hg2 (l0.getD i []) (by simp [List.getD_eq_getElem?_getD, hi])
        simpa using this
      · simp [List.getD_eq_getElem?_getD, hi]
    have hmf : ∀ (fn : Fn) (first cap : Array Value) (w : World), (Instr.makeFunc fn first cap).run Try.prog w = .ok (.func fn first cap) w := fun _ _ _ _ => rfl
    have HQ := Aside0.mk hq
    have HLEN := Aside0.mk hlen
    have HG1 := Aside0.mk hg1
    have HG3 := Aside0.mk hg3
    have HZ := Aside0.mk (Nat.pos_of_ne_zero hz)
    have HR0 := Aside0.mk hr0
    have HC0 := Aside0.mk hc0
    have HB := Aside0.mk (Below.refl w.heap.size w)
    clear hq hlen hg1 hg2 hg3 hz hr0 hc0 h
    go_enter Try.func72, Try.ntmps72
    go_wp2_with (first
      | ((with_reducible refine gate_dst (N := 1) rfl ?_); refine box_event ?hg (N := 1) ?hd (cs := #[.slice A0 l0.length c0]) (t := 22) ?hr ?_; (case hd => rfl); (case hg => rfl); (case hr => first | (go_simp; done) | (go_simp; rfl)); intro bn hbn w1 hbox hb1; have f1 : w1.cell? ⟨bn, 0, none⟩ = some (.slice A0 l0.length c0) := (blk_cell hbox 0).trans rfl; have BN := Aside0.mk hbox; have HB1 := Aside0.mk hb1; clear hbox hb1 hbn)
      | ((with_reducible refine gate_dst (N := 13) rfl ?_); refine Kd.R_make Kd.bool (w0 := w) w.heap.size 4 rfl (N := 13) rfl 25 _ _ rfl (l0.length : Int) rfl rfl Try.underlying25 (.bool false) 1 infoB rfl (by decide) (by omega) false (ok := fun _ => True) (okp := fun _ => True) rfl (fun _ hk => hk) trivial (by omega) (by have := HG1.out; omega) HB1.out (below_size HB1.out) ?_; intro v13 w2 ho7 hb2 hg2 hnew2; rw [Int.toNat_natCast] at ho7; obtain ⟨rm, cm, eo, _, _, _⟩ := Kd.R_form ho7 (by rw [List.length_replicate]; exact HZ.out); rw [List.length_replicate] at eo; subst eo; have RM2 := Aside0.mk ho7; have BN2 := Aside0.mk (blk_grown BN.out hg2 (by simp)); have HB2 := Aside0.mk hb2; clear ho7 hb2 hg2 hnew2)
      | ((with_reducible refine gate_dst (N := 3) rfl ?_); refine box_event ?hg (N := 3) ?hd (cs := #[.slice none 0 0]) (t := 25) ?hr ?_; (case hd => rfl); (case hg => rfl); (case hr => first | (go_simp; done) | (go_simp; rfl)); intro bm hbm w3 hbox hb3; have m1 : w3.cell? ⟨bm, 0, none⟩ = some (.slice none 0 0) := (blk_cell hbox 0).trans rfl; have m2 := blk_frozen hbox 0; have BM := Aside0.mk hbox; have BN3 := Aside0.mk (blk_below BN2.out hb3); have RM3 := Aside0.mk (Kd.R_below RM2.out hb3); have LO3 := Aside0.mk (show w.heap.size ≤ bm by rw [hbm]; exact below_size HB2.out); have HB3 := Aside0.mk (below_step HB2.out hb3); clear hbox hb3 hbm)
      | (go_at_call 84; refine (deep_calls w ⟨bm, bn, w3.heap.size + 1, w3.heap.size, rm, cm, A0, l0.length, c0⟩ l0 rfl HR0.out HC0.out HLEN.out l0.length 0 (List.replicate l0.length false) [] M1 D1 HZ.out (by simp) HQ.out (by have := HG3.out; simpa using this) _ (os_start HB3.out BN3.out BM.out RM3.out LO3.out)).mono ?_; rintro e w8 ⟨rfl, h8⟩; have H8 := Aside0.mk h8; have HB8 := Aside0.mk h8.below; obtain ⟨v8, hv8, hr8⟩ := h8.ho; have V8 := Aside0.mk hv8; have R8 := Aside0.mk hr8; have g8 : w8.cell? ⟨w3.heap.size, 0, none⟩ = some v8 := (blk_cell hv8 0).trans rfl; obtain ⟨A8, c8, e8⟩ := Kd.R_slice hr8; subst e8; clear h8 hv8 hr8))
    have hne : 0 < D1.length := Nat.lt_of_le_of_lt (Nat.zero_le _) (dfs_len l0 _ _ _ _ _ HQ.out).1
    have hDl : D1.length ≤ 17592186044416 := by have := HG3.out; simpa using this
    generalize w3.heap.size = bo at *
    go_quiet (fail)
    try go_wp2
    go_loopw [6, 7] (fun vi vk wr => ∃ (i k : Nat) (L : List Int), vi = .int .i64 (i : Int) ∧ vk = .int .i64 (k : Int) ∧ i + k + 1 = D1.length ∧ RL D1 i L ∧ Aside0 (wr.heap[bo]? = some (.cells #[.slice A8 D1.length c8] 27 (0, 0))) ∧ Aside0 (Kd.R (Kd.int .i64) 3 wr w.heap.size (fun _ => True) (.slice A8 D1.length c8) L) ∧ Aside0 (Below w.heap.size w wr)) (fun vi _ _ => D1.length - (intOf vi).toNat)
    case atStart => exact ⟨0, D1.length - 1, D1, rfl, by congr 1; omega, by omega, RL.zero D1, V8, R8, ⟨pw_below_drewN HB8.out _⟩⟩
    case round =>
      obtain ⟨i, k, L, rfl, rfl, hi, hRL, hV, hR, hB⟩ := hrel
      have hl : L.length = D1.length := hRL.1
      obtain ⟨g, c9, eo, gb, _, cs9, hcs⟩ := Kd.R_form hR.out (by omega)
      obtain ⟨e1, e2⟩ : A8 = some ⟨g, 0, none⟩ ∧ True := ⟨by injection eo, trivial⟩
      subst e1
      have hno : bo ≠ g := ne_of_type hV.out hcs (by decide)
      have hno2 : g ≠ bo := Ne.symm hno
      by_cases hc : i < k
      · have y0 : decide ((i : Int) < (k : Int)) = true := decide_eq_true (by omega)
        have hik : i ≠ k := by omega
        obtain ⟨a1, a2⟩ := Kd.R_celln (0 : Int) hR.out (i : Int) (by omega) (by omega)
        obtain ⟨b1, b2⟩ := Kd.R_celln (0 : Int) hR.out (k : Int) (by omega) (by omega)
        have v1 : wr.cell? ⟨bo, 0, none⟩ = some (.slice (some ⟨g, 0, none⟩) D1.length c8) := (blk_cell hV.out 0).trans rfl
        have q1 : 0 ≤ (i : Int) := by omega
        have q2 : (i : Int) < (D1.length : Int) := by omega
        have q3 : 0 ≤ (k : Int) := by omega
        have q4 : (k : Int) < (D1.length : Int) := by omega
        have q5 : i < D1.length := by omega
        have q6 : k < D1.length := by omega
        have HRL := Aside0.mk hRL
        clear hRL hcs eo
        rw [Int.toNat_natCast] at a1 a2 b1 b2
        have er1 : rdOf 0 L (i : Int) = L.getD i 0 := by simp [rdOf]
        have er2 : rdOf 0 L (k : Int) = L.getD k 0 := by simp [rdOf]
        rw [er1] at a1
        rw [er2] at b1
        generalize hx : L.getD i 0 = x at a1
        generalize hy : L.getD k 0 = y at b1
        have HX := Aside0.mk hx
        have HY := Aside0.mk hy
        clear hx hy er1 er2
        go_wp2
        refine start_ (n := 16) (ds := []) (S := fun w' => w'.cell? ⟨bo, 0, none⟩ = some (.slice (some ⟨g, 0, none⟩) D1.length c8)) #[false,false,false,false,false,false,false,false,false,false,false,false,false,false,false,false] (by kernel_rfl) rfl rfl v1 (fun hHeld => ?_)
        refine take_ (i := 0) (N := some 27) (v := ?_) (a' := ?_) #[true,false,false,false,false,false,false,false,false,false,false,false,false,false,false,false] rfl rfl (by kernel_rfl) (fun _ _ _ h => h) (Or.inl ⟨by rfl, ?_⟩) hHeld ?_ ?_
        rotate_left
        · rintro w' s0
          go_simp
          with_reducible rfl
        rotate_left
        · simp only [Act.put, List.setIfInBounds_toArray, List.set_cons_zero, List.set_cons_succ, i64_w, i32_w]
          rfl
        refine pure_ (i := 1) (N := some 28) (v := ?_) (a' := ?_) #[true,true,false,false,false,false,false,false,false,false,false,false,false,false,false,false] rfl rfl (by kernel_rfl) (fun _ _ _ h => h) (Or.inl ⟨by rfl, ?_⟩) ?_ ?_
        rotate_left
        · intro w'
          go_simp
          with_reducible rfl
        rotate_left
        · simp only [Act.put, List.setIfInBounds_toArray, List.set_cons_zero, List.set_cons_succ, i64_w, i32_w]
          rfl
        refine take_ (i := 2) (N := some 29) (v := ?_) (a' := ?_) #[true,true,true,false,false,false,false,false,false,false,false,false,false,false,false,false] rfl rfl (by kernel_rfl) (fun _ _ _ h => h) (Or.inl ⟨by rfl, ?_⟩) hHeld ?_ ?_
        rotate_left
        · rintro w' s0
          go_simp
          with_reducible rfl
        rotate_left
        · simp only [Act.put, List.setIfInBounds_toArray, List.set_cons_zero, List.set_cons_succ, i64_w, i32_w]
          rfl
        refine pure_ (i := 3) (N := some 30) (v := ?_) (a' := ?_) #[true,true,true,true,false,false,false,false,false,false,false,false,false,false,false,false] rfl rfl (by kernel_rfl) (fun _ _ _ h => h) (Or.inl ⟨by rfl, ?_⟩) ?_ ?_
        rotate_left
        · intro w'
          go_simp
          with_reducible rfl
        rotate_left
        · simp only [Act.put, List.setIfInBounds_toArray, List.set_cons_zero, List.set_cons_succ, i64_w, i32_w]
          rfl
        refine take_ (i := 4) (N := some 31) (v := ?_) (a' := ?_) #[true,true,true,true,true,false,false,false,false,false,false,false,false,false,false,false] rfl rfl (by kernel_rfl) (fun _ _ _ h => h) (Or.inl ⟨by rfl, ?_⟩) hHeld ?_ ?_
        rotate_left
        · rintro w' s0
          go_simp
          with_reducible rfl
        rotate_left
        · simp only [Act.put, List.setIfInBounds_toArray, List.set_cons_zero, List.set_cons_succ, i64_w, i32_w]
          rfl
        refine pure_ (i := 5) (N := some 32) (v := ?_) (a' := ?_) #[true,true,true,true,true,true,false,false,false,false,false,false,false,false,false,false] rfl rfl (by kernel_rfl) (fun _ _ _ h => h) (Or.inl ⟨by rfl, ?_⟩) ?_ ?_
        rotate_left
        · intro w'
          go_simp
          with_reducible rfl
        rotate_left
        · simp only [Act.put, List.setIfInBounds_toArray, List.set_cons_zero, List.set_cons_succ, i64_w, i32_w]
          rfl
        refine pure_ (i := 6) (N := some 33) (v := ?_) (a' := ?_) #[true,true,true,true,true,true,true,false,false,false,false,false,false,false,false,false] rfl rfl (by kernel_rfl) (fun _ _ _ h => h) (Or.inl ⟨by rfl, ?_⟩) ?_ ?_
        rotate_left
        · intro w'
          go_simp
          with_reducible rfl
        rotate_left
        · simp only [Act.put, List.setIfInBounds_toArray, List.set_cons_zero, List.set_cons_succ, i64_w, i32_w]
          rfl
        refine take_ (i := 8) (N := some 35) (v := ?_) (a' := ?_) #[true,true,true,true,true,true,true,false,true,false,false,false,false,false,false,false] rfl rfl (by kernel_rfl) (fun _ _ _ h => h) (Or.inl ⟨by rfl, ?_⟩) hHeld ?_ ?_
        rotate_left
        · rintro w' s0
          go_simp
          with_reducible rfl
        rotate_left
        · simp only [Act.put, List.setIfInBounds_toArray, List.set_cons_zero, List.set_cons_succ, i64_w, i32_w]
          rfl
        refine pure_ (i := 9) (N := some 36) (v := ?_) (a' := ?_) #[true,true,true,true,true,true,true,false,true,true,false,false,false,false,false,false] rfl rfl (by kernel_rfl) (fun _ _ _ h => h) (Or.inl ⟨by rfl, ?_⟩) ?_ ?_
        rotate_left
        · intro w'
          go_simp
          with_reducible rfl
        rotate_left
        · simp only [Act.put, List.setIfInBounds_toArray, List.set_cons_zero, List.set_cons_succ, i64_w, i32_w]
          rfl
        refine pure_ (i := 10) (N := some 37) (v := ?_) (a' := ?_) #[true,true,true,true,true,true,true,false,true,true,true,false,false,false,false,false] rfl rfl (by kernel_rfl) (fun _ _ _ h => h) (Or.inl ⟨by rfl, ?_⟩) ?_ ?_
        rotate_left
        · intro w'
          go_simp
          with_reducible rfl
        rotate_left
        · simp only [Act.put, List.setIfInBounds_toArray, List.set_cons_zero, List.set_cons_succ, i64_w, i32_w]
          rfl
        refine two_ (i := 7) (j := 11) (Ni := some 34) (Nj := some 38) #[true,true,true,true,true,true,true,true,true,true,true,false,false,false,false,false] #[true,true,true,true,true,true,true,false,true,true,true,true,false,false,false,false] rfl rfl rfl rfl (by kernel_rfl) (by decide) (by decide) (fun K hK => ?_) (fun K hK => ?_)
        · refine value_ (w1 := wr.drew) (v := .int .i64 y) (by rfl) rfl ?_ ?_
          · go_simp
            first | done | rfl
          refine hK.out _ _ v1 (fun hHeld => ?_)
          clear hK K
          refine norm_ (a' := ?_) ?_ ?_
          rotate_left
          · show Act.put _ (some 34) _ = _
            simp only [Act.put, List.setIfInBounds_toArray, List.set_cons_zero, List.set_cons_succ, i64_w, i32_w]
            rfl
          refine one_ (i := 11) (N := some 38) #[true,true,true,true,true,true,true,true,true,true,true,true,false,false,false,false] rfl rfl (by kernel_rfl) (by decide) (fun K hK => ?_)
          refine value_ (w1 := wr.drew) (v := .int .i64 x) (by rfl) rfl ?_ ?_
          · go_simp
            first | done | rfl
          refine hK.out _ _ v1 (fun hHeld => ?_)
          clear hK K
          refine norm_ (a' := ?_) ?_ ?_
          rotate_left
          · show Act.put _ (some 38) _ = _
            simp only [Act.put, List.setIfInBounds_toArray, List.set_cons_zero, List.set_cons_succ, i64_w, i32_w]
            rfl
          refine pure_ (i := 12) (N := some 39) (v := ?_) (a' := ?_) #[true,true,true,true,true,true,true,true,true,true,true,true,true,false,false,false] rfl rfl (by kernel_rfl) (fun _ _ _ h => h) (Or.inl ⟨by rfl, ?_⟩) ?_ ?_
          rotate_left
          · intro w'
            go_simp
            with_reducible rfl
          rotate_left
          · simp only [Act.put, List.setIfInBounds_toArray, List.set_cons_zero, List.set_cons_succ, i64_w, i32_w]
            rfl
          refine one_ (i := 13) (N := none) #[true,true,true,true,true,true,true,true,true,true,true,true,true,true,false,false] rfl rfl (by kernel_rfl) (by decide) (fun K hK => ?_)
          refine skip_ (w1 := (wr.setCell ⟨g, i, none⟩ (.int .i64 y)).drew) (by rfl) rfl ?_ ?_
          · go_simp
            first | done | rfl
          refine hK.out _ _ ((blk_cell (blk_far hV.out hno _) 0).trans rfl) (fun hHeld => ?_)
          clear hK K
          refine pure_ (i := 14) (N := some 40) (v := ?_) (a' := ?_) #[true,true,true,true,true,true,true,true,true,true,true,true,true,true,true,false] rfl rfl (by kernel_rfl) (fun _ _ _ h => h) (Or.inl ⟨by rfl, ?_⟩) ?_ ?_
          rotate_left
          · intro w'
            go_simp
            with_reducible rfl
          rotate_left
          · simp only [Act.put, List.setIfInBounds_toArray, List.set_cons_zero, List.set_cons_succ, i64_w, i32_w]
            rfl
          refine one_ (i := 15) (N := none) #[true,true,true,true,true,true,true,true,true,true,true,true,true,true,true,true] rfl rfl (by kernel_rfl) (by decide) (fun K hK => ?_)
          refine skip_ (w1 := ((wr.setCell ⟨g, i, none⟩ (.int .i64 y)).setCell ⟨g, k, none⟩ (.int .i64 x)).drew) (by rfl) rfl ?_ ?_
          · go_simp
            first | done | rfl
          refine hK.out _ _ ((blk_cell (blk_far (blk_far hV.out hno _) hno _) 0).trans rfl) (fun hHeld => ?_)
          clear hK K
          refine done_ (by kernel_rfl) ?_
          all_goals go_wp2
          all_goals go_roundw
          case measure => simp [intOf]; omega
          all_goals
            refine ⟨i + 1, k - 1, (L.set i y).set k x, by go_num, by congr 1; omega, by omega, ?_, ⟨blk_far (blk_far hV.out hno _) hno _⟩, ⟨?_⟩, ⟨below_drew1 (below_set (below_set hB.out gb) gb)⟩⟩
            · have h9 := HRL.out.step (by omega)
              rw [show D1.length - 1 - i = k by omega, HX.out, HY.out] at h9
              exact h9
            · have h9 := (Kd.R_putg (Kd.R_putg hR.out (i : Int) y).1 (k : Int) x).1
              rw [Int.toNat_natCast, Int.toNat_natCast] at h9
              exact h9
        · refine value_ (w1 := wr.drew) (v := .int .i64 x) (by rfl) rfl ?_ ?_
          · go_simp
            first | done | rfl
          refine hK.out _ _ v1 (fun hHeld => ?_)
          clear hK K
          refine norm_ (a' := ?_) ?_ ?_
          rotate_left
          · show Act.put _ (some 38) _ = _
            simp only [Act.put, List.setIfInBounds_toArray, List.set_cons_zero, List.set_cons_succ, i64_w, i32_w]
            rfl
          refine one_ (i := 7) (N := some 34) #[true,true,true,true,true,true,true,true,true,true,true,true,false,false,false,false] rfl rfl (by kernel_rfl) (by decide) (fun K hK => ?_)
          refine value_ (w1 := wr.drew) (v := .int .i64 y) (by rfl) rfl ?_ ?_
          · go_simp
            first | done | rfl
          refine hK.out _ _ v1 (fun hHeld => ?_)
          clear hK K
          refine norm_ (a' := ?_) ?_ ?_
          rotate_left
          · show Act.put _ (some 34) _ = _
            simp only [Act.put, List.setIfInBounds_toArray, List.set_cons_zero, List.set_cons_succ, i64_w, i32_w]
            rfl
          refine pure_ (i := 12) (N := some 39) (v := ?_) (a' := ?_) #[true,true,true,true,true,true,true,true,true,true,true,true,true,false,false,false] rfl rfl (by kernel_rfl) (fun _ _ _ h => h) (Or.inl ⟨by rfl, ?_⟩) ?_ ?_
          rotate_left
          · intro w'
            go_simp
            with_reducible rfl
          rotate_left
          · simp only [Act.put, List.setIfInBounds_toArray, List.set_cons_zero, List.set_cons_succ, i64_w, i32_w]
            rfl
          refine one_ (i := 13) (N := none) #[true,true,true,true,true,true,true,true,true,true,true,true,true,true,false,false] rfl rfl (by kernel_rfl) (by decide) (fun K hK => ?_)
          refine skip_ (w1 := (wr.setCell ⟨g, i, none⟩ (.int .i64 y)).drew) (by rfl) rfl ?_ ?_
          · go_simp
            first | done | rfl
          refine hK.out _ _ ((blk_cell (blk_far hV.out hno _) 0).trans rfl) (fun hHeld => ?_)
          clear hK K
          refine pure_ (i := 14) (N := some 40) (v := ?_) (a' := ?_) #[true,true,true,true,true,true,true,true,true,true,true,true,true,true,true,false] rfl rfl (by kernel_rfl) (fun _ _ _ h => h) (Or.inl ⟨by rfl, ?_⟩) ?_ ?_
          rotate_left
          · intro w'
            go_simp
            with_reducible rfl
          rotate_left
          · simp only [Act.put, List.setIfInBounds_toArray, List.set_cons_zero, List.set_cons_succ, i64_w, i32_w]
            rfl
          refine one_ (i := 15) (N := none) #[true,true,true,true,true,true,true,true,true,true,true,true,true,true,true,true] rfl rfl (by kernel_rfl) (by decide) (fun K hK => ?_)
          refine skip_ (w1 := ((wr.setCell ⟨g, i, none⟩ (.int .i64 y)).setCell ⟨g, k, none⟩ (.int .i64 x)).drew) (by rfl) rfl ?_ ?_
          · go_simp
            first | done | rfl
          refine hK.out _ _ ((blk_cell (blk_far (blk_far hV.out hno _) hno _) 0).trans rfl) (fun hHeld => ?_)
          clear hK K
          refine done_ (by kernel_rfl) ?_
          all_goals go_wp2
          all_goals go_roundw
          case measure => simp [intOf]; omega
          all_goals
            refine ⟨i + 1, k - 1, (L.set i y).set k x, by go_num, by congr 1; omega, by omega, ?_, ⟨blk_far (blk_far hV.out hno _) hno _⟩, ⟨?_⟩, ⟨below_drew1 (below_set (below_set hB.out gb) gb)⟩⟩
            · have h9 := HRL.out.step (by omega)
              rw [show D1.length - 1 - i = k by omega, HX.out, HY.out] at h9
              exact h9
            · have h9 := (Kd.R_putg (Kd.R_putg hR.out (i : Int) y).1 (k : Int) x).1
              rw [Int.toNat_natCast, Int.toNat_natCast] at h9
              exact h9
      · have e : L = D1.reverse := hRL.done (by omega)
        have y0 : decide ((i : Int) < (k : Int)) = false := decide_eq_false (by omega)
        have v1 : wr.cell? ⟨bo, 0, none⟩ = some (.slice (some ⟨g, 0, none⟩) D1.length c8) := (blk_cell hV.out 0).trans rfl
        subst e
        clear eo hcs
        go_wp2
        go_ret
        exact ⟨_, rfl, hR.out, hB.out⟩
end Go.Proofs.Ytfiffhcpgojkhaa
