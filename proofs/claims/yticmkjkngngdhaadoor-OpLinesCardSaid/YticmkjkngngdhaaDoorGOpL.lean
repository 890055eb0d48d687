/- ladderbackref12.Read by hand, over the printed Split, Parse and Line. No condition. -/
import Derived.Test.YticmkjkngngdhaaDoorQOpLinesx5
import Derived.Test.YticmkjkngngdhaaDoorQOpLinesx8
namespace Go.Proofs.YticmkjkngngdhaaDoor.QOpLines
open Go.RowKit Go.Proofs.YticmkjkngngdhaaDoor Go.Proofs.YticmkjkngngdhaaDoorW.PrintWords Go.Proofs.YticmkjkngngdhaaDoorW.PrintLast Go.Proofs.YticmkjkngngdhaaDoorW.PrintMore
set_option linter.unusedVariables false
set_option linter.unusedSimpArgs false
/-- What the part i of a cut line says as a number; 0 where there is none. -/
def ladderbackref12_Read.nth (k : Nat) (l : List ByteArray) (i : Nat) : Option Int := if i < l.length then (ladderbackref04_Parse.f k (rdOf ByteArray.empty l (i : Int))).bind fun p => some p.1 else some 0
/-- The first operation from o on whose line it is. -/
def ladderbackref12_Read.lp (k : Nat) (s : ByteArray) (n1 n2 : Int) : Nat → Nat → Option (Int × Int × Int × Bool)
  | 0, _ => some (0, 0, 0, false)
  | d + 1, o => if s.toList = [] then lp k s n1 n2 d (o + 1) else (ladderbackref12_Line.f k (o : Int) n1 n2).bind fun t => if t.toList = s.toList then some ((o : Int), n1, n2, true) else lp k s n1 n2 d (o + 1)
def ladderbackref12_Read.f (k : Nat) (a0 : ByteArray) : Option (Int × Int × Int × Bool) := (ladderbackref12_Split.f k a0 32).bind fun l => (ladderbackref12_Read.nth k l 1).bind fun n1 => (ladderbackref12_Read.nth k l 2).bind fun n2 => ladderbackref12_Read.lp k a0 n1 n2 38 0
theorem ladderbackref12_Read.nth_mono (l : List ByteArray) (i k : Nat) : LeO (ladderbackref12_Read.nth k l i) (ladderbackref12_Read.nth (k + 1) l i) := by
  unfold ladderbackref12_Read.nth
  exact LeO.ite (LeO.bind (ladderbackref04_Parse.mono _ _) fun _ => LeO.refl _) (LeO.refl _)
theorem ladderbackref12_Read.lp_mono (k : Nat) (s : ByteArray) (n1 n2 : Int) : ∀ d o, LeO (ladderbackref12_Read.lp k s n1 n2 d o) (ladderbackref12_Read.lp (k + 1) s n1 n2 d o)
  | 0, _ => LeO.refl _
  | d + 1, o => by
    simp only [ladderbackref12_Read.lp]
    exact LeO.ite (lp_mono k s n1 n2 d (o + 1)) (LeO.bind (ladderbackref12_Line.mono _ _ _ _) fun _ => LeO.ite (LeO.refl _) (lp_mono k s n1 n2 d (o + 1)))
theorem ladderbackref12_Read.mono : ∀ a0 k, LeO (ladderbackref12_Read.f k a0) (ladderbackref12_Read.f (k + 1) a0) := by
  intro a0 k
  unfold ladderbackref12_Read.f
  exact LeO.bind (ladderbackref12_Split.mono _ _ _) fun l => LeO.bind (ladderbackref12_Read.nth_mono l 1 k) fun n1 => LeO.bind (ladderbackref12_Read.nth_mono l 2 k) fun n2 => ladderbackref12_Read.lp_mono k a0 n1 n2 38 0
/-- The world while the numbers are read: the parts, the result's box (nothing yet), the three numbers' box. -/
def RdInv (w : World) (A : Option Addr) (l : List ByteArray) (b c : Nat) (n1 n2 : Int) (W : World) : Prop :=
  (∀ j : Nat, j < l.length → ∃ ad, A = some ad ∧ (ad.add j).block ≠ c ∧ W.cell? (ad.add j) = some (.string (rdOf ByteArray.empty l (j : Int)))) ∧ W.heap[b]? = some (.cells #[.int .i64 0, .int .i64 0, .int .i64 0] 41 (0, 0)) ∧ W.heap[c]? = some (.cells #[.int .i64 0, .int .i64 n1, .int .i64 n2] 25 (0, 0)) ∧ Below w.heap.size w W
theorem RdInv.call {w : World} {A : Option Addr} {l : List ByteArray} {b c : Nat} {n1 n2 : Int} {W W' : World} (h : RdInv w A l b c n1 n2 W) (hb : Below W.heap.size W W') : RdInv w A l b c n1 n2 W' :=
  ⟨fun j hj => by
    obtain ⟨ad, e, hn, hc⟩ := h.1 j hj
    exact ⟨ad, e, hn, (hb.cell (World.block_lt_of_cell? _ _ hc)).trans hc⟩, blk_below h.2.1 hb, blk_below h.2.2.1 hb, below_step h.2.2.2 hb⟩
theorem RdInv.put {w : World} {A : Option Addr} {l : List ByteArray} {b c : Nat} {n1 n2 m1 m2 : Int} {W : World} (h : RdInv w A l b c n1 n2 W) (hbc : b ≠ c) (hc : w.heap.size ≤ c) (i : Nat) (u : Value) (e : (#[.int .i64 0, .int .i64 n1, .int .i64 n2] : Array Value).setIfInBounds i u = #[.int .i64 0, .int .i64 m1, .int .i64 m2]) : RdInv w A l b c m1 m2 (W.setCell ⟨c, i, none⟩ u) :=
  ⟨fun j hj => by
    obtain ⟨ad, e, hn, hx⟩ := h.1 j hj
    refine ⟨ad, e, hn, ?_⟩
    have := Below.heap_setCell W ⟨c, i, none⟩ u (ad.add j).block hn
    simpa [World.cell?, this] using hx, blk_far h.2.1 hbc u, blk_put h.2.2.1 i u e, h.2.2.2.setCell hc u⟩
theorem RdInv.drewN {w : World} {A : Option Addr} {l : List ByteArray} {b c : Nat} {n1 n2 : Int} {W : World} (h : RdInv w A l b c n1 n2 W) (m : Nat) : RdInv w A l b c n1 n2 (W.drewN m) := ⟨h.1, h.2.1, h.2.2.1, pw_below_drewN h.2.2.2 m⟩
theorem RdInv.at_ {w : World} {A : Option Addr} {l : List ByteArray} {b c : Nat} {n1 n2 : Int} {W : World} (h : RdInv w A l b c n1 n2 W) (j : Nat) (z : Int) (hz : (j : Int) = z) (hj : j < l.length) : ∃ ad, A = some ad ∧ W.cell? (ad.add j) = some (.string (rdOf ByteArray.empty l z)) := by
  subst hz
  obtain ⟨ad, e, _, hx⟩ := h.1 j hj
  exact ⟨ad, e, hx⟩
theorem RdInv.box {w : World} {A : Option Addr} {l : List ByteArray} {b c : Nat} {n1 n2 : Int} {W W4 : World} {g : Nat} (h : RdInv w A l b c n1 n2 W) (hb : Below W.heap.size W W4) (hg : g = W.heap.size) (u0 u1 u2 : Value) :
    RdInv w A l b c n1 n2 (((W4.setCell ⟨g, 0, none⟩ u0).setCell ⟨g, 1, none⟩ u1).setCell ⟨g, 2, none⟩ u2) :=
  h.call (((hb.setCell (p := ⟨g, 0, none⟩) (Nat.le_of_eq hg.symm) u0).setCell (p := ⟨g, 1, none⟩) (Nat.le_of_eq hg.symm) u1).setCell (p := ⟨g, 2, none⟩) (Nat.le_of_eq hg.symm) u2)
theorem nth_some {k : Nat} {l : List ByteArray} {i : Nat} {n : Int} (h : ladderbackref12_Read.nth k l i = some n) (hi : i < l.length) : ∃ ok, ladderbackref04_Parse.f k (rdOf ByteArray.empty l (i : Int)) = some (n, ok) := by
  unfold ladderbackref12_Read.nth at h
  rw [if_pos hi] at h
  obtain ⟨⟨x, ok⟩, hp, e⟩ := Option.bind_eq_some_iff.mp h
  obtain rfl := Option.some.inj e
  exact ⟨ok, hp⟩
theorem nth_none {k : Nat} {l : List ByteArray} {i : Nat} {n : Int} (h : ladderbackref12_Read.nth k l i = some n) (hi : ¬ i < l.length) : n = 0 := by
  unfold ladderbackref12_Read.nth at h
  rw [if_neg hi] at h
  exact (Option.some.inj h).symm
theorem RdInv.fin {k : Nat} {w : World} {A : Option Addr} {l : List ByteArray} {b c : Nat} {n1 n2 : Int} {W : World} {i : Nat} (h : RdInv w A l b c (if 1 < i then n1 else 0) (if 2 < i then n2 else 0) W) (h1 : 1 ≤ i) (h3 : i ≤ 3) (hc : ¬ (i < l.length ∧ i < 3))
    (hN1 : ladderbackref12_Read.nth k l 1 = some n1) (hN2 : ladderbackref12_Read.nth k l 2 = some n2) : RdInv w A l b c n1 n2 W := by
  rcases (by omega : i = 1 ∨ i = 2 ∨ i = 3) with rfl | rfl | rfl
  · rw [nth_none hN1 (by omega), nth_none hN2 (by omega)]; exact h
  · have := nth_none hN2 (by omega); subst this; exact h
  · exact h
set_option maxHeartbeats 8000000 in
set_option maxRecDepth 100000 in
theorem ladderbackref12_Read.calls (k : Nat) (a0 : ByteArray) (r1 r2 r3 : Int) (r4 : Bool) (w : World) (h : ladderbackref12_Read.f k a0 = some (r1, r2, r3, r4)) :
    Calls Tryd.prog 29 #[.string a0] w fun e w' => e = .returned (.tuple #[.agg #[.int .i64 r1, .int .i64 r2, .int .i64 r3], .bool r4]) ∧ Below w.heap.size w w' := by
  have hu41 := Tryd.underlying41
  unfold ladderbackref12_Read.f at h
  obtain ⟨l, hS, h⟩ := Option.bind_eq_some_iff.mp h
  obtain ⟨n1, hN1, h⟩ := Option.bind_eq_some_iff.mp h
  obtain ⟨n2, hN2, h⟩ := Option.bind_eq_some_iff.mp h
  have AS := Aside0.mk hS
  have AN1 := Aside0.mk hN1
  have AN2 := Aside0.mk hN2
  have AH := Aside0.mk h
  clear hS hN1 hN2 h
  have HB := Aside0.mk (Below.refl w.heap.size w)
  go_enter Tryd.func29, Tryd.ntmps29
  go_wp2_with (first
    | ((with_reducible refine gate_dst (N := 2) rfl ?_); refine box_event ?hg (N := 2) ?hd (cs := #[.int .i64 0, .int .i64 0, .int .i64 0]) (t := 41) ?hr ?_; (case hd => rfl); (case hg => rfl); (case hr => first | (go_simp; done) | (go_simp; rfl)); intro gb hgb w1 hbox hb1; have BX := Aside0.mk hbox; have HB1 := Aside0.mk hb1; have GB := Aside0.mk hgb; clear hbox hb1 hgb)
    | ((with_reducible refine gate_callee (f := 74) rfl ?_); refine goesL_ (some 12) rfl rfl Tryd.func74 (by kernel_rfl) rfl #[.string a0, .int .u8 32] rfl (by (try simp only [List.map_toArray, List.map_cons, List.map_nil]); first | done | rfl) ?_; (with_reducible refine (ladderbackref12_Split.calls k a0 32 l _ AS.out).mono ?_); rintro e w2 ⟨v12, rfl, ho, hb2⟩; refine ⟨_, rfl, ?_⟩; have HO2 := Aside0.mk ho; have HB2 := Aside0.mk hb2; clear ho hb2; obtain ⟨A2, co2, ev2⟩ := Kd.R_slice HO2.out; subst ev2)
    | ((with_reducible refine gate_dst (N := 5) rfl ?_); refine box_event ?hg (N := 5) ?hd (cs := #[.int .i64 0, .int .i64 0, .int .i64 0]) (t := 25) ?hr ?_; (case hd => rfl); (case hg => rfl); (case hr => first | (go_simp; done) | (go_simp; rfl)); intro gc hgc w3 hbox hb3; have CX := Aside0.mk hbox; have HB3 := Aside0.mk hb3; have GC := Aside0.mk hgc; clear hbox hb3 hgc))
  have hlt1 : gb < gc := by
    have h1 := blk_lt BX.out
    have h2 := HB2.out.size
    have h3 := GC.out
    omega
  have hgc : w.heap.size ≤ gc := by
    have h2 := HB1.out.size
    have h3 := HB2.out.size
    have h4 := GC.out
    omega
  have hgb : w.heap.size ≤ gb := by have := GB.out; omega
  have I0 : RdInv w A2 l gb gc 0 0 w3 := ⟨fun j hj => by
    obtain ⟨ad, e, hx⟩ := Kd.at_string (Kd.R_reads' HO2.out).2.2 (j : Int) (by omega) (by omega)
    rw [Int.toNat_natCast] at hx
    have hl := World.block_lt_of_cell? _ _ hx
    have h4 := GC.out
    exact ⟨ad, e, by omega, (HB3.out.cell hl).trans hx⟩, blk_below (blk_below BX.out HB2.out) HB3.out, CX.out, below_step (below_step HB1.out HB2.out) HB3.out⟩
  have J0 := Aside0.mk I0
  have NE := Aside0.mk (show gb ≠ gc by omega)
  have GEB := Aside0.mk hgb
  have GEC := Aside0.mk hgc
  clear I0 hlt1 hgc hgb HB HB1 HB2 HB3 BX CX HO2 GB GC
  go_loopw [6] (fun vi wr => ∃ i : Nat, vi = .int .i64 (i : Int) ∧ 1 ≤ i ∧ i ≤ 3 ∧ Aside0 (RdInv w A2 l gb gc (if 1 < i then n1 else 0) (if 2 < i then n2 else 0) wr)) (fun vi _ => 3 - (intOf vi).toNat)
  case atStart => exact ⟨1, rfl, by omega, by omega, J0⟩
  case round =>
    obtain ⟨i, rfl, h1, h3, inv⟩ := hrel
    by_cases hc : i < l.length ∧ i < 3
    · rcases (by omega : i = 1 ∨ i = 2) with rfl | rfl
      · obtain ⟨ok, hp⟩ := nth_some AN1.out hc.1
        have AP : Aside0 (ladderbackref04_Parse.f k (rdOf ByteArray.empty l 1) = some (n1, ok)) := ⟨hp⟩
        obtain ⟨ad, eA, hx⟩ := inv.out.at_ 1 1 rfl hc.1
        have hf := blk_frozen inv.out.2.2.1 1
        have hl1 : decide ((1 : Int) < (l.length : Int)) = true := decide_eq_true (by omega)
        have hl2 : decide (1 < l.length) = true := decide_eq_true (by omega)
        have hl3 : (1 < l.length) = True := eq_true (by omega)
        subst eA
        clear hp
        simp only [Go.Addr.add, ↓reduceIte, Nat.reduceEqDiff] at hx
        rw [show ((1 : Nat) : Int) = 1 from rfl]
        go_wp2_with ((with_reducible refine gate_callee (f := 75) rfl ?_); refine goesL_ (some 28) rfl rfl Tryd.func75 (by kernel_rfl) rfl #[.string (rdOf ByteArray.empty l 1)] rfl (by (try simp only [List.map_toArray, List.map_cons, List.map_nil]); first | done | rfl) ?_; (with_reducible refine (ladderbackref04_Parse.calls k (rdOf ByteArray.empty l 1) n1 ok _ AP.out).mono ?_); rintro e w' ⟨rfl, ⟨nd, rfl⟩⟩; refine ⟨_, rfl, ?_⟩; have hf2 := blk_frozen (inv.out.drewN nd).2.2.1 1; have hc2 : World.cell? _ ⟨gc, 1, none⟩ = some (.int .i64 0) := (blk_cell (inv.out.drewN nd).2.2.1 1).trans rfl)
        go_roundw
        case rel => exact ⟨2, rfl, by omega, by omega, ⟨((inv.out.drewN nd).put NE.out GEC.out 1 (.int .i64 n1) rfl)⟩⟩
        case measure => simp [intOf]
      · obtain ⟨ok, hp⟩ := nth_some AN2.out hc.1
        have AP : Aside0 (ladderbackref04_Parse.f k (rdOf ByteArray.empty l 2) = some (n2, ok)) := ⟨hp⟩
        obtain ⟨ad, eA, hx⟩ := inv.out.at_ 2 2 rfl hc.1
        have hf := blk_frozen inv.out.2.2.1 2
        have hl1 : decide ((2 : Int) < (l.length : Int)) = true := decide_eq_true (by omega)
        have hl2 : decide (2 < l.length) = true := decide_eq_true (by omega)
        have hl3 : (2 < l.length) = True := eq_true (by omega)
        subst eA
        clear hp
        simp only [Go.Addr.add, ↓reduceIte, Nat.reduceEqDiff] at hx
        rw [show ((2 : Nat) : Int) = 2 from rfl]
        go_wp2_with ((with_reducible refine gate_callee (f := 75) rfl ?_); refine goesL_ (some 28) rfl rfl Tryd.func75 (by kernel_rfl) rfl #[.string (rdOf ByteArray.empty l 2)] rfl (by (try simp only [List.map_toArray, List.map_cons, List.map_nil]); first | done | rfl) ?_; (with_reducible refine (ladderbackref04_Parse.calls k (rdOf ByteArray.empty l 2) n2 ok _ AP.out).mono ?_); rintro e w' ⟨rfl, ⟨nd, rfl⟩⟩; refine ⟨_, rfl, ?_⟩; have hf2 := blk_frozen (inv.out.drewN nd).2.2.1 2; have hc2 : World.cell? _ ⟨gc, 2, none⟩ = some (.int .i64 0) := (blk_cell (inv.out.drewN nd).2.2.1 2).trans rfl)
        go_roundw
        case rel => exact ⟨3, rfl, by omega, by omega, ⟨((inv.out.drewN nd).put NE.out GEC.out 2 (.int .i64 n2) rfl)⟩⟩
        case measure => simp [intOf]
    · have I2 := Aside0.mk (inv.out.fin h1 h3 hc AN1.out AN2.out)
      clear inv
      by_cases hq : i < l.length
      · obtain rfl : i = 3 := by omega
        have x1 : decide ((3 : Int) < (l.length : Int)) = true := decide_eq_true (by omega)
        have x2 : decide (3 < l.length) = true := decide_eq_true (by omega)
        have x3 : (3 < l.length) = True := eq_true (by omega)
        rw [show ((3 : Nat) : Int) = 3 from rfl]
        go_wp2
        go_loopw [9] (fun vi wr => ∃ o : Nat, vi = .int .i64 (o : Int) ∧ o ≤ 38 ∧ Aside0 (ladderbackref12_Read.lp k a0 n1 n2 (38 - o) o = some (r1, r2, r3, r4)) ∧ Aside0 (RdInv w A2 l gb gc n1 n2 wr)) (fun vi _ => 38 - (intOf vi).toNat)
        case atStart => exact ⟨0, rfl, by omega, AH, I2⟩
        case round =>
          obtain ⟨o, rfl, ho, AL, I3⟩ := hrel
          have c1 : World.cell? _ ⟨gc, 1, none⟩ = some (.int .i64 n1) := (blk_cell I3.out.2.2.1 1).trans rfl
          have c2 : World.cell? _ ⟨gc, 2, none⟩ = some (.int .i64 n2) := (blk_cell I3.out.2.2.1 2).trans rfl
          by_cases hlt : o < 38
          · have hz : ladderbackref12_Read.lp k a0 n1 n2 (38 - o) o = (if a0.toList = [] then ladderbackref12_Read.lp k a0 n1 n2 (38 - (o + 1)) (o + 1) else (ladderbackref12_Line.f k (o : Int) n1 n2).bind fun t => if t.toList = a0.toList then some ((o : Int), n1, n2, true) else ladderbackref12_Read.lp k a0 n1 n2 (38 - (o + 1)) (o + 1)) := by
              rw [show 38 - o = (38 - (o + 1)) + 1 by omega]
              rfl
            have hL := hz.symm.trans AL.out
            clear hz
            have b0 : decide ((o : Int) < 38) = true := decide_eq_true (by omega)
            by_cases he : a0.toList = []
            · rw [if_pos he] at hL
              have HL := Aside0.mk hL
              have e1 : (a0.toList == ([] : List UInt8)) = true := beq_iff_eq.mpr he
              have e2 : (a0.toList != ([] : List UInt8)) = false := bne_eq_false_iff_eq.mpr he
              have e3 : a0.toList.isEmpty = true := by rw [he]; rfl
              clear hL
              go_wp2_with ((with_reducible refine gate_dst (N := 10) rfl ?_); refine box_event ?hg (N := 10) ?hd (cs := #[.int .i64 0, .int .i64 0, .int .i64 0]) (t := 41) ?hr ?_; (case hd => rfl); (case hg => rfl); (case hr => first | (go_simp; done) | (go_simp; rfl)); intro gd hgd w4 hbox hb4; have DX := Aside0.mk hbox; have I5 := Aside0.mk (I3.out.box hb4 hgd); have NDB : gd ≠ gb := (by have := blk_lt I3.out.2.1; omega); have d0 : w4.cell? ⟨gd, 0, none⟩ = some (.int .i64 0) := (blk_cell DX.out 0).trans rfl; have d1 : w4.cell? ⟨gd, 1, none⟩ = some (.int .i64 0) := (blk_cell DX.out 1).trans rfl; have d2 : w4.cell? ⟨gd, 2, none⟩ = some (.int .i64 0) := (blk_cell DX.out 2).trans rfl; have f0 := blk_frozen DX.out 0; have f1 := blk_frozen DX.out 1; have f2 := blk_frozen DX.out 2; clear hbox hb4 hgd)
              go_roundw
              case rel => exact ⟨o + 1, by go_num, by omega, HL, ⟨I5.out _ _ _⟩⟩
              case measure => simp [intOf]; omega
            · rw [if_neg he] at hL
              obtain ⟨tl, hT, hL⟩ := Option.bind_eq_some_iff.mp hL
              have ATL := Aside0.mk hT
              clear hT
              have e1 : (a0.toList == ([] : List UInt8)) = false := beq_eq_false_iff_ne.mpr he
              have e2 : (a0.toList != ([] : List UInt8)) = true := bne_iff_ne.mpr he
              have e3 : a0.toList.isEmpty = false := by simpa using he
              by_cases hq : tl.toList = a0.toList
              · rw [if_pos hq] at hL
                simp only [Option.some.injEq, Prod.mk.injEq] at hL
                obtain ⟨rfl, rfl, rfl, rfl⟩ := hL
                have q1 : (tl.toList == a0.toList) = true := beq_iff_eq.mpr hq
                clear hq
                go_wp2_with (first | ((with_reducible refine gate_dst (N := 10) rfl ?_); refine box_event ?hg (N := 10) ?hd (cs := #[.int .i64 0, .int .i64 0, .int .i64 0]) (t := 41) ?hr ?_; (case hd => rfl); (case hg => rfl); (case hr => first | (go_simp; done) | (go_simp; rfl)); intro gd hgd w4 hbox hb4; have DX := Aside0.mk hbox; have I5 := Aside0.mk (I3.out.box hb4 hgd); have NDB : gd ≠ gb := (by have := blk_lt I3.out.2.1; omega); have d0 : w4.cell? ⟨gd, 0, none⟩ = some (.int .i64 0) := (blk_cell DX.out 0).trans rfl; have d1 : w4.cell? ⟨gd, 1, none⟩ = some (.int .i64 0) := (blk_cell DX.out 1).trans rfl; have d2 : w4.cell? ⟨gd, 2, none⟩ = some (.int .i64 0) := (blk_cell DX.out 2).trans rfl; have f0 := blk_frozen DX.out 0; have f1 := blk_frozen DX.out 1; have f2 := blk_frozen DX.out 2; clear hbox hb4 hgd) | ((with_reducible refine gate_callee (f := 31) rfl ?_); (try (refine gate_guard (by rfl) ?_; dsimp only)); refine goesL_ (some 48) rfl rfl Tryd.func31 (by kernel_rfl) rfl #[.agg #[.int .i64 (o : Int), .int .i64 n1, .int .i64 n2]] rfl (by (try simp only [List.map_toArray, List.map_cons, List.map_nil]); first | done | rfl) ?_; (with_reducible refine (ladderbackref12_Line.calls k (o : Int) n1 n2 tl _ ATL.out).mono ?_); rintro e w6 ⟨rfl, hb6⟩; refine ⟨_, rfl, ?_⟩; have I6 := Aside0.mk ((I5.out _ _ _).call hb6); have D6 := Aside0.mk (blk_below (blk_put (blk_put (blk_put DX.out 0 (.int .i64 (o : Int)) rfl) 1 (.int .i64 n1) rfl) 2 (.int .i64 n2) rfl) hb6); have e0 : w6.cell? ⟨gd, 0, none⟩ = some (.int .i64 (o : Int)) := (blk_cell D6.out 0).trans rfl; have e1 : w6.cell? ⟨gd, 1, none⟩ = some (.int .i64 n1) := (blk_cell D6.out 1).trans rfl; have e2 : w6.cell? ⟨gd, 2, none⟩ = some (.int .i64 n2) := (blk_cell D6.out 2).trans rfl; have g0 : w6.cell? ⟨gb, 0, none⟩ = some (.int .i64 0) := (blk_cell I6.out.2.1 0).trans rfl; have g1 : w6.cell? ⟨gb, 1, none⟩ = some (.int .i64 0) := (blk_cell I6.out.2.1 1).trans rfl; have g2 : w6.cell? ⟨gb, 2, none⟩ = some (.int .i64 0) := (blk_cell I6.out.2.1 2).trans rfl; have z0 := blk_frozen I6.out.2.1 0; have z1 := blk_frozen I6.out.2.1 1; have z2 := blk_frozen I6.out.2.1 2; clear hb6))
                refine bodyPost_ret (results_ct rfl _ _ gb 41 #[.int .i64 (o : Int), .int .i64 n1, .int .i64 n2] (0, 0) _ rfl (by refine blk_put (cs := #[.int .i64 (o : Int), .int .i64 n1, .int .i64 0]) ?_ 2 _ rfl; refine blk_put (cs := #[.int .i64 (o : Int), .int .i64 0, .int .i64 0]) ?_ 1 _ rfl; refine blk_put (cs := #[.int .i64 0, .int .i64 0, .int .i64 0]) ?_ 0 _ rfl; exact I6.out.2.1) Tryd.underlying41 rfl (by kernel_rfl)) rfl ?_
                exact ⟨rfl, ((I6.out.2.2.2.setCell GEB.out _).setCell GEB.out _).setCell GEB.out _⟩
              · rw [if_neg hq] at hL
                have HL := Aside0.mk hL
                have q1 : (tl.toList == a0.toList) = false := beq_eq_false_iff_ne.mpr hq
                clear hL
                go_wp2_with (first | ((with_reducible refine gate_dst (N := 10) rfl ?_); refine box_event ?hg (N := 10) ?hd (cs := #[.int .i64 0, .int .i64 0, .int .i64 0]) (t := 41) ?hr ?_; (case hd => rfl); (case hg => rfl); (case hr => first | (go_simp; done) | (go_simp; rfl)); intro gd hgd w4 hbox hb4; have DX := Aside0.mk hbox; have I5 := Aside0.mk (I3.out.box hb4 hgd); have NDB : gd ≠ gb := (by have := blk_lt I3.out.2.1; omega); have d0 : w4.cell? ⟨gd, 0, none⟩ = some (.int .i64 0) := (blk_cell DX.out 0).trans rfl; have d1 : w4.cell? ⟨gd, 1, none⟩ = some (.int .i64 0) := (blk_cell DX.out 1).trans rfl; have d2 : w4.cell? ⟨gd, 2, none⟩ = some (.int .i64 0) := (blk_cell DX.out 2).trans rfl; have f0 := blk_frozen DX.out 0; have f1 := blk_frozen DX.out 1; have f2 := blk_frozen DX.out 2; clear hbox hb4 hgd) | ((with_reducible refine gate_callee (f := 31) rfl ?_); (try (refine gate_guard (by rfl) ?_; dsimp only)); refine goesL_ (some 48) rfl rfl Tryd.func31 (by kernel_rfl) rfl #[.agg #[.int .i64 (o : Int), .int .i64 n1, .int .i64 n2]] rfl (by (try simp only [List.map_toArray, List.map_cons, List.map_nil]); first | done | rfl) ?_; (with_reducible refine (ladderbackref12_Line.calls k (o : Int) n1 n2 tl _ ATL.out).mono ?_); rintro e w6 ⟨rfl, hb6⟩; refine ⟨_, rfl, ?_⟩; have I6 := Aside0.mk ((I5.out _ _ _).call hb6); have D6 := Aside0.mk (blk_below (blk_put (blk_put (blk_put DX.out 0 (.int .i64 (o : Int)) rfl) 1 (.int .i64 n1) rfl) 2 (.int .i64 n2) rfl) hb6); have e0 : w6.cell? ⟨gd, 0, none⟩ = some (.int .i64 (o : Int)) := (blk_cell D6.out 0).trans rfl; have e1 : w6.cell? ⟨gd, 1, none⟩ = some (.int .i64 n1) := (blk_cell D6.out 1).trans rfl; have e2 : w6.cell? ⟨gd, 2, none⟩ = some (.int .i64 n2) := (blk_cell D6.out 2).trans rfl; have g0 : w6.cell? ⟨gb, 0, none⟩ = some (.int .i64 0) := (blk_cell I6.out.2.1 0).trans rfl; have g1 : w6.cell? ⟨gb, 1, none⟩ = some (.int .i64 0) := (blk_cell I6.out.2.1 1).trans rfl; have g2 : w6.cell? ⟨gb, 2, none⟩ = some (.int .i64 0) := (blk_cell I6.out.2.1 2).trans rfl; have z0 := blk_frozen I6.out.2.1 0; have z1 := blk_frozen I6.out.2.1 1; have z2 := blk_frozen I6.out.2.1 2; clear hb6))
                go_roundw
                case rel => exact ⟨o + 1, by go_num, by omega, HL, I6⟩
                case measure => simp [intOf]; omega
          · obtain rfl : o = 38 := by omega
            have hL : some ((0 : Int), (0 : Int), (0 : Int), false) = some (r1, r2, r3, r4) := AL.out
            simp only [Option.some.injEq, Prod.mk.injEq] at hL
            obtain ⟨rfl, rfl, rfl, rfl⟩ := hL
            have g0 : World.cell? _ ⟨gb, 0, none⟩ = some (.int .i64 0) := (blk_cell I3.out.2.1 0).trans rfl
            have g1 : World.cell? _ ⟨gb, 1, none⟩ = some (.int .i64 0) := (blk_cell I3.out.2.1 1).trans rfl
            have g2 : World.cell? _ ⟨gb, 2, none⟩ = some (.int .i64 0) := (blk_cell I3.out.2.1 2).trans rfl
            have z0 := blk_frozen I3.out.2.1 0
            have z1 := blk_frozen I3.out.2.1 1
            have z2 := blk_frozen I3.out.2.1 2
            go_wp2
            refine bodyPost_ret (results_ct rfl _ _ gb 41 #[.int .i64 0, .int .i64 0, .int .i64 0] (0, 0) _ rfl (by refine blk_put (cs := #[.int .i64 0, .int .i64 0, .int .i64 0]) ?_ 2 _ rfl; refine blk_put (cs := #[.int .i64 0, .int .i64 0, .int .i64 0]) ?_ 1 _ rfl; refine blk_put (cs := #[.int .i64 0, .int .i64 0, .int .i64 0]) ?_ 0 _ rfl; exact I3.out.2.1) Tryd.underlying41 rfl (by kernel_rfl)) rfl ?_
            exact ⟨rfl, ((I3.out.2.2.2.setCell GEB.out _).setCell GEB.out _).setCell GEB.out _⟩
      · have x1 : decide ((i : Int) < (l.length : Int)) = false := decide_eq_false (by omega)
        have x2 : decide (i < l.length) = false := decide_eq_false (by omega)
        have x3 : (i < l.length) = False := eq_false (by omega)
        go_wp2
        go_loopw [9] (fun vi wr => ∃ o : Nat, vi = .int .i64 (o : Int) ∧ o ≤ 38 ∧ Aside0 (ladderbackref12_Read.lp k a0 n1 n2 (38 - o) o = some (r1, r2, r3, r4)) ∧ Aside0 (RdInv w A2 l gb gc n1 n2 wr)) (fun vi _ => 38 - (intOf vi).toNat)
        case atStart => exact ⟨0, rfl, by omega, AH, I2⟩
        case round =>
          obtain ⟨o, rfl, ho, AL, I3⟩ := hrel
          have c1 : World.cell? _ ⟨gc, 1, none⟩ = some (.int .i64 n1) := (blk_cell I3.out.2.2.1 1).trans rfl
          have c2 : World.cell? _ ⟨gc, 2, none⟩ = some (.int .i64 n2) := (blk_cell I3.out.2.2.1 2).trans rfl
          by_cases hlt : o < 38
          · have hz : ladderbackref12_Read.lp k a0 n1 n2 (38 - o) o = (if a0.toList = [] then ladderbackref12_Read.lp k a0 n1 n2 (38 - (o + 1)) (o + 1) else (ladderbackref12_Line.f k (o : Int) n1 n2).bind fun t => if t.toList = a0.toList then some ((o : Int), n1, n2, true) else ladderbackref12_Read.lp k a0 n1 n2 (38 - (o + 1)) (o + 1)) := by
              rw [show 38 - o = (38 - (o + 1)) + 1 by omega]
              rfl
            have hL := hz.symm.trans AL.out
            clear hz
            have b0 : decide ((o : Int) < 38) = true := decide_eq_true (by omega)
            by_cases he : a0.toList = []
            · rw [if_pos he] at hL
              have HL := Aside0.mk hL
              have e1 : (a0.toList == ([] : List UInt8)) = true := beq_iff_eq.mpr he
              have e2 : (a0.toList != ([] : List UInt8)) = false := bne_eq_false_iff_eq.mpr he
              have e3 : a0.toList.isEmpty = true := by rw [he]; rfl
              clear hL
              go_wp2_with ((with_reducible refine gate_dst (N := 10) rfl ?_); refine box_event ?hg (N := 10) ?hd (cs := #[.int .i64 0, .int .i64 0, .int .i64 0]) (t := 41) ?hr ?_; (case hd => rfl); (case hg => rfl); (case hr => first | (go_simp; done) | (go_simp; rfl)); intro gd hgd w4 hbox hb4; have DX := Aside0.mk hbox; have I5 := Aside0.mk (I3.out.box hb4 hgd); have NDB : gd ≠ gb := (by have := blk_lt I3.out.2.1; omega); have d0 : w4.cell? ⟨gd, 0, none⟩ = some (.int .i64 0) := (blk_cell DX.out 0).trans rfl; have d1 : w4.cell? ⟨gd, 1, none⟩ = some (.int .i64 0) := (blk_cell DX.out 1).trans rfl; have d2 : w4.cell? ⟨gd, 2, none⟩ = some (.int .i64 0) := (blk_cell DX.out 2).trans rfl; have f0 := blk_frozen DX.out 0; have f1 := blk_frozen DX.out 1; have f2 := blk_frozen DX.out 2; clear hbox hb4 hgd)
              go_roundw
              case rel => exact ⟨o + 1, by go_num, by omega, HL, ⟨I5.out _ _ _⟩⟩
              case measure => simp [intOf]; omega
            · rw [if_neg he] at hL
              obtain ⟨tl, hT, hL⟩ := Option.bind_eq_some_iff.mp hL
              have ATL := Aside0.mk hT
              clear hT
              have e1 : (a0.toList == ([] : List UInt8)) = false := beq_eq_false_iff_ne.mpr he
              have e2 : (a0.toList != ([] : List UInt8)) = true := bne_iff_ne.mpr he
              have e3 : a0.toList.isEmpty = false := by simpa using he
              by_cases hq : tl.toList = a0.toList
              · rw [if_pos hq] at hL
                simp only [Option.some.injEq, Prod.mk.injEq] at hL
                obtain ⟨rfl, rfl, rfl, rfl⟩ := hL
                have q1 : (tl.toList == a0.toList) = true := beq_iff_eq.mpr hq
                clear hq
                go_wp2_with (first | ((with_reducible refine gate_dst (N := 10) rfl ?_); refine box_event ?hg (N := 10) ?hd (cs := #[.int .i64 0, .int .i64 0, .int .i64 0]) (t := 41) ?hr ?_; (case hd => rfl); (case hg => rfl); (case hr => first | (go_simp; done) | (go_simp; rfl)); intro gd hgd w4 hbox hb4; have DX := Aside0.mk hbox; have I5 := Aside0.mk (I3.out.box hb4 hgd); have NDB : gd ≠ gb := (by have := blk_lt I3.out.2.1; omega); have d0 : w4.cell? ⟨gd, 0, none⟩ = some (.int .i64 0) := (blk_cell DX.out 0).trans rfl; have d1 : w4.cell? ⟨gd, 1, none⟩ = some (.int .i64 0) := (blk_cell DX.out 1).trans rfl; have d2 : w4.cell? ⟨gd, 2, none⟩ = some (.int .i64 0) := (blk_cell DX.out 2).trans rfl; have f0 := blk_frozen DX.out 0; have f1 := blk_frozen DX.out 1; have f2 := blk_frozen DX.out 2; clear hbox hb4 hgd) | ((with_reducible refine gate_callee (f := 31) rfl ?_); (try (refine gate_guard (by rfl) ?_; dsimp only)); refine goesL_ (some 48) rfl rfl Tryd.func31 (by kernel_rfl) rfl #[.agg #[.int .i64 (o : Int), .int .i64 n1, .int .i64 n2]] rfl (by (try simp only [List.map_toArray, List.map_cons, List.map_nil]); first | done | rfl) ?_; (with_reducible refine (ladderbackref12_Line.calls k (o : Int) n1 n2 tl _ ATL.out).mono ?_); rintro e w6 ⟨rfl, hb6⟩; refine ⟨_, rfl, ?_⟩; have I6 := Aside0.mk ((I5.out _ _ _).call hb6); have D6 := Aside0.mk (blk_below (blk_put (blk_put (blk_put DX.out 0 (.int .i64 (o : Int)) rfl) 1 (.int .i64 n1) rfl) 2 (.int .i64 n2) rfl) hb6); have e0 : w6.cell? ⟨gd, 0, none⟩ = some (.int .i64 (o : Int)) := (blk_cell D6.out 0).trans rfl; have e1 : w6.cell? ⟨gd, 1, none⟩ = some (.int .i64 n1) := (blk_cell D6.out 1).trans rfl; have e2 : w6.cell? ⟨gd, 2, none⟩ = some (.int .i64 n2) := (blk_cell D6.out 2).trans rfl; have g0 : w6.cell? ⟨gb, 0, none⟩ = some (.int .i64 0) := (blk_cell I6.out.2.1 0).trans rfl; have g1 : w6.cell? ⟨gb, 1, none⟩ = some (.int .i64 0) := (blk_cell I6.out.2.1 1).trans rfl; have g2 : w6.cell? ⟨gb, 2, none⟩ = some (.int .i64 0) := (blk_cell I6.out.2.1 2).trans rfl; have z0 := blk_frozen I6.out.2.1 0; have z1 := blk_frozen I6.out.2.1 1; have z2 := blk_frozen I6.out.2.1 2; clear hb6))
                refine bodyPost_ret (results_ct rfl _ _ gb 41 #[.int .i64 (o : Int), .int .i64 n1, .int .i64 n2] (0, 0) _ rfl (by refine blk_put (cs := #[.int .i64 (o : Int), .int .i64 n1, .int .i64 0]) ?_ 2 _ rfl; refine blk_put (cs := #[.int .i64 (o : Int), .int .i64 0, .int .i64 0]) ?_ 1 _ rfl; refine blk_put (cs := #[.int .i64 0, .int .i64 0, .int .i64 0]) ?_ 0 _ rfl; exact I6.out.2.1) Tryd.underlying41 rfl (by kernel_rfl)) rfl ?_
                exact ⟨rfl, ((I6.out.2.2.2.setCell GEB.out _).setCell GEB.out _).setCell GEB.out _⟩
              · rw [if_neg hq] at hL
                have HL := Aside0.mk hL
                have q1 : (tl.toList == a0.toList) = false := beq_eq_false_iff_ne.mpr hq
                clear hL
                go_wp2_with (first | ((with_reducible refine gate_dst (N := 10) rfl ?_); refine box_event ?hg (N := 10) ?hd (cs := #[.int .i64 0, .int .i64 0, .int .i64 0]) (t := 41) ?hr ?_; (case hd => rfl); (case hg => rfl); (case hr => first | (go_simp; done) | (go_simp; rfl)); intro gd hgd w4 hbox hb4; have DX := Aside0.mk hbox; have I5 := Aside0.mk (I3.out.box hb4 hgd); have NDB : gd ≠ gb := (by have := blk_lt I3.out.2.1; omega); have d0 : w4.cell? ⟨gd, 0, none⟩ = some (.int .i64 0) := (blk_cell DX.out 0).trans rfl; have d1 : w4.cell? ⟨gd, 1, none⟩ = some (.int .i64 0) := (blk_cell DX.out 1).trans rfl; have d2 : w4.cell? ⟨gd, 2, none⟩ = some (.int .i64 0) := (blk_cell DX.out 2).trans rfl; have f0 := blk_frozen DX.out 0; have f1 := blk_frozen DX.out 1; have f2 := blk_frozen DX.out 2; clear hbox hb4 hgd) | ((with_reducible refine gate_callee (f := 31) rfl ?_); (try (refine gate_guard (by rfl) ?_; dsimp only)); refine goesL_ (some 48) rfl rfl Tryd.func31 (by kernel_rfl) rfl #[.agg #[.int .i64 (o : Int), .int .i64 n1, .int .i64 n2]] rfl (by (try simp only [List.map_toArray, List.map_cons, List.map_nil]); first | done | rfl) ?_; (with_reducible refine (ladderbackref12_Line.calls k (o : Int) n1 n2 tl _ ATL.out).mono ?_); rintro e w6 ⟨rfl, hb6⟩; refine ⟨_, rfl, ?_⟩; have I6 := Aside0.mk ((I5.out _ _ _).call hb6); have D6 := Aside0.mk (blk_below (blk_put (blk_put (blk_put DX.out 0 (.int .i64 (o : Int)) rfl) 1 (.int .i64 n1) rfl) 2 (.int .i64 n2) rfl) hb6); have e0 : w6.cell? ⟨gd, 0, none⟩ = some (.int .i64 (o : Int)) := (blk_cell D6.out 0).trans rfl; have e1 : w6.cell? ⟨gd, 1, none⟩ = some (.int .i64 n1) := (blk_cell D6.out 1).trans rfl; have e2 : w6.cell? ⟨gd, 2, none⟩ = some (.int .i64 n2) := (blk_cell D6.out 2).trans rfl; have g0 : w6.cell? ⟨gb, 0, none⟩ = some (.int .i64 0) := (blk_cell I6.out.2.1 0).trans rfl; have g1 : w6.cell? ⟨gb, 1, none⟩ = some (.int .i64 0) := (blk_cell I6.out.2.1 1).trans rfl; have g2 : w6.cell? ⟨gb, 2, none⟩ = some (.int .i64 0) := (blk_cell I6.out.2.1 2).trans rfl; have z0 := blk_frozen I6.out.2.1 0; have z1 := blk_frozen I6.out.2.1 1; have z2 := blk_frozen I6.out.2.1 2; clear hb6))
                go_roundw
                case rel => exact ⟨o + 1, by go_num, by omega, HL, I6⟩
                case measure => simp [intOf]; omega
          · obtain rfl : o = 38 := by omega
            have hL : some ((0 : Int), (0 : Int), (0 : Int), false) = some (r1, r2, r3, r4) := AL.out
            simp only [Option.some.injEq, Prod.mk.injEq] at hL
            obtain ⟨rfl, rfl, rfl, rfl⟩ := hL
            have g0 : World.cell? _ ⟨gb, 0, none⟩ = some (.int .i64 0) := (blk_cell I3.out.2.1 0).trans rfl
            have g1 : World.cell? _ ⟨gb, 1, none⟩ = some (.int .i64 0) := (blk_cell I3.out.2.1 1).trans rfl
            have g2 : World.cell? _ ⟨gb, 2, none⟩ = some (.int .i64 0) := (blk_cell I3.out.2.1 2).trans rfl
            have z0 := blk_frozen I3.out.2.1 0
            have z1 := blk_frozen I3.out.2.1 1
            have z2 := blk_frozen I3.out.2.1 2
            go_wp2
            refine bodyPost_ret (results_ct rfl _ _ gb 41 #[.int .i64 0, .int .i64 0, .int .i64 0] (0, 0) _ rfl (by refine blk_put (cs := #[.int .i64 0, .int .i64 0, .int .i64 0]) ?_ 2 _ rfl; refine blk_put (cs := #[.int .i64 0, .int .i64 0, .int .i64 0]) ?_ 1 _ rfl; refine blk_put (cs := #[.int .i64 0, .int .i64 0, .int .i64 0]) ?_ 0 _ rfl; exact I3.out.2.1) Tryd.underlying41 rfl (by kernel_rfl)) rfl ?_
            exact ⟨rfl, ((I3.out.2.2.2.setCell GEB.out _).setCell GEB.out _).setCell GEB.out _⟩
end Go.Proofs.YticmkjkngngdhaaDoor.QOpLines
