/- inter.Derive by hand, over the printed know and parts. No condition. -/
import Derived.Test.YtfiffhcpgojkhaaQInterPartsx2
import Derived.Test.YtfiffhcpgojkhaaQInterPartsx18
import Derived.Test.YtfiffhcpgojkhaaInterD
namespace Go.Proofs.Ytfiffhcpgojkhaa.QInterParts
open Go.RowKit Go.Proofs.Ytfiffhcpgojkhaa Go.Proofs.YtfiffhcpgojkhaaW.PrintWords Go.Proofs.YtfiffhcpgojkhaaW.PrintLast Go.Proofs.YtfiffhcpgojkhaaW.PrintMore InterE
set_option linter.unusedVariables false
set_option linter.unusedSimpArgs false
def inter_Derive.f (k : Nat) (l0 : List (List Int)) : Option (List (List Int)) := (inter_know.f k l0).bind fun kn => (inter_known_parts.f k kn.1 kn.2.1 kn.2.2).bind fun pr => if pr.1.length ≤ 5864062014805 ∧ pr.2.length < 4611686018427387904 then (derA kn.1 pr.2 pr.2.length 0 (List.replicate pr.1.length [])).bind fun P => derC P.length 0 P else none
theorem inter_Derive.mono : ∀ a0 k, LeO (inter_Derive.f k a0) (inter_Derive.f (k + 1) a0) := by
  intro a0 k r h
  unfold inter_Derive.f at h ⊢
  obtain ⟨kn, hk, h⟩ := Option.bind_eq_some_iff.mp h
  obtain ⟨pr, hp, h⟩ := Option.bind_eq_some_iff.mp h
  rw [inter_know.mono _ _ _ hk]
  simp only [Option.bind_some]
  rw [inter_known_parts.mono _ _ _ _ _ hp]
  exact h
set_option maxHeartbeats 16000000 in
set_option maxRecDepth 100000 in
theorem inter_Derive.calls (k : Nat) (A0 : Option Addr) (c0 : Nat) (l0 : List (List Int)) (r : List (List Int)) (w : World) (hr0 : Kd.C (Kd.slice 3 (Kd.int .i64)) w A0 l0.length l0) (hc0 : l0.length ≤ c0) (h : inter_Derive.f k l0 = some r) :
    Calls Try.prog 46 #[.slice A0 l0.length c0] w fun e w' => ∃ v0_ : Value, e = .returned v0_ ∧ Kd.S (Kd.slice 3 (Kd.int .i64)) 27 w' w.heap.size (fun _ => True) v0_ r ∧ Below w.heap.size w w' := by
  unfold inter_Derive.f at h
  obtain ⟨⟨kn, pd, rc⟩, hk, h⟩ := Option.bind_eq_some_iff.mp h
  obtain ⟨⟨ls, of⟩, hp, h⟩ := Option.bind_eq_some_iff.mp h
  simp only at h hp
  split at h
  rotate_left
  · cases h
  rename_i hg
  obtain ⟨P1, hA, h⟩ := Option.bind_eq_some_iff.mp h
  have HV := Aside0.mk (Kd.V_mk (e := 27) (base := w.heap.size) hc0 (Kd.C_F (Kd.heap_slice 3 (Kd.heap_int .i64)) hr0))
  have HK := Aside0.mk hk
  have HP := Aside0.mk hp
  have HG := Aside0.mk hg
  have HA := Aside0.mk hA
  have HH := Aside0.mk h
  have hu := Try.underlying74
  clear hr0 hc0 hk hp hg hA h
  go_enter Try.func46, Try.ntmps46
  go_wp2_with (first
    | ((with_reducible refine gate_callee (f := 68) rfl ?_); refine goesL_ (some 13) rfl rfl Try.func68 (by kernel_rfl) rfl #[.slice A0 l0.length c0] rfl (by (try simp only [List.map_toArray, List.map_cons, List.map_nil]); first | done | rfl) ?_; (with_reducible refine (inter_know.calls k _ A0 c0 l0 kn pd rc w HV.out HK.out).mono ?_); rintro e w1 ⟨v1, v2, v3, rfl, ho1, ho2, ho3, hb⟩; refine ⟨_, rfl, ?_⟩; obtain ⟨An, cn, en⟩ := Kd.N_slice ho1; subst en; obtain ⟨Ap, cp, ep⟩ := Kd.N_slice ho2; subst ep; obtain ⟨Ar, cr, er⟩ := Kd.R_slice ho3; subst er; have N1 := Aside0.mk (Kd.N_reads' ho1).2; have N2 := Aside0.mk (Kd.N_reads' ho2).2; have N3 := Aside0.mk (Kd.R_reads' ho3).2; have B1 := Aside0.mk hb; clear ho1 ho2 ho3 hb)
    | ((with_reducible refine gate_callee (f := 69) rfl ?_); refine goesL_ (some 16) rfl rfl Try.func69 (by kernel_rfl) rfl #[.agg #[.slice An kn.length cn, .slice Ap pd.length cp, .slice Ar rc.length cr]] rfl (by (try simp only [List.map_toArray, List.map_cons, List.map_nil]); first | done | rfl) ?_; (with_reducible refine (inter_known_parts.calls k An cn kn Ap cp pd Ar cr rc ls of _ (Kd.C_alloc N1.out.2 _) N1.out.1 (Kd.C_alloc N2.out.2 _) N2.out.1 (Kd.C_alloc N3.out.2 _) N3.out.1 HP.out).mono ?_); rintro e w3 ⟨v4, v5, rfl, ho1, ho2, hb⟩; refine ⟨_, rfl, ?_⟩; obtain ⟨Al, cl, el⟩ := Kd.S_slice ho1; subst el; obtain ⟨Ao, co, eo⟩ := Kd.R_slice ho2; subst eo; have CO := Aside0.mk (Kd.R_reads' ho2).2.2; have CN := Aside0.mk (Kd.C_below (Kd.C_alloc N1.out.2 (.cells #[.slice An kn.length cn, .slice Ap pd.length cp, .slice Ar rc.length cr] 74 (0, 0))) hb); have CB := Aside0.mk (blk_below (heap_alloc_new w1 (.cells #[.slice An kn.length cn, .slice Ap pd.length cp, .slice Ar rc.length cr] 74 (0, 0))) hb); have B3 := Aside0.mk (below_step (below_alloc B1.out _) hb); clear ho1 ho2 hb N1 N2 N3)
    | ((with_reducible refine gate_dst (N := 21) rfl ?_); (try (refine gate_guard (by rfl) ?_; dsimp only)); refine Kd.S_make (Kd.slice 3 (Kd.int .i64)) (w0 := w3) w3.heap.size 27 rfl (N := 21) rfl 22 _ _ rfl (ls.length : Int) rfl rfl Try.underlying22 (.slice none 0 0) 24 DomA.infoS rfl (by decide) (by omega) [] (ok := fun _ => True) (okp := fun _ => True) ⟨_, rfl, Kd.R_nil _ _ _ _ _⟩ (fun _ hk => hk) trivial (by omega) (by have := HG.out.1; omega) (Below.refl _ _) (Nat.le_refl _) ?_; intro v6 w4 ho1 hb1 hg_ hnew_; rw [Int.toNat_natCast] at ho1; obtain ⟨A3, c3, e3⟩ := Kd.S_slice ho1; rw [List.length_replicate] at e3; subst e3; have T4 : Aside0 (TO w3 (fun _ => True) A3 ls.length c3 (List.replicate ls.length []) w4) := ⟨ho1⟩; have B4 := Aside0.mk hb1; clear ho1 hb1 hg_ hnew_))
  go_loopw [24] (fun vi wr => ∃ (m : Nat) (P : List (List Int)), vi = .int .i64 (m : Int) ∧ m ≤ of.length ∧ Aside0 (derA kn of (of.length - m) m P = some P1) ∧ Aside0 (TO w3 (fun _ => True) A3 ls.length c3 P wr) ∧ Aside0 (Below w3.heap.size w3 wr)) (fun vi _ => of.length - (intOf vi).toNat)
  case atStart => exact ⟨0, _, rfl, Nat.zero_le _, ⟨by rw [Nat.sub_zero]; exact HA.out⟩, T4, B4⟩
  case round =>
    obtain ⟨m, P, rfl, hm, hO, hT, hB⟩ := hrel
    clear HA T4 B4
    by_cases hlt : m < of.length
    · obtain ⟨ado, eAo, hxo⟩ := Kd.at_int (Kd.C_below CO.out hB.out) (m : Int) (by omega) (by omega)
      subst eAo
      rw [Int.toNat_natCast] at hxo
      have hq := hO.out
      rw [derA_step _ _ _ _ hlt] at hq
      generalize rd of (m : Int) = fr at hxo hq
      have y0 : decide ((m : Int) < (of.length : Int)) = true := decide_eq_true (by omega)
      have y1 : (m < of.length) = True := eq_true hlt
      by_cases c0 : fr < 0
      · rw [if_pos c0] at hq
        have HQ := Aside0.mk hq
        have y2 : decide (fr < 0) = true := decide_eq_true c0
        clear hq hO
        go_wp2
        go_roundw
        case rel => exact ⟨m + 1, P, by rw [PdC.wnext m (by have := HG.out.2; omega)], hlt, HQ, hT, hB⟩
        case measure => rw [PdC.wnext m (by have := HG.out.2; omega)]; simp only [intOf, Int.toNat_natCast]; omega
      · rw [if_neg c0] at hq
        split at hq
        rotate_left
        · cases hq
        rename_i hc
        obtain ⟨P2, hq1, hq2⟩ := Option.bind_eq_some_iff.mp hq
        have HQ1 := Aside0.mk hq1
        have HQ2 := Aside0.mk hq2
        have y2 : decide (fr < 0) = false := decide_eq_false c0
        have hTL := TO.len hT.out
        have FR0 : Aside0 (0 ≤ fr) := ⟨by omega⟩
        have FR1 : Aside0 (fr < (ls.length : Int)) := ⟨by have := hc.1; omega⟩
        have HCL := Aside0.mk hc.2.2
        obtain ⟨adn, A4, c4, eAn, hxn, hl4, hr4⟩ := DomA.at_L CN.out (m : Int) (by omega) (by have := hc.2.1; omega)
        subst eAn
        rw [Int.toNat_natCast] at hxn
        have hfz := (hB.out.cell (World.block_lt_of_cell? _ _ hxn)).trans hxn
        obtain ⟨b0, b1, b2⟩ := box3_ (blk_below CB.out hB.out)
        have y3 : (m < kn.length) = True := eq_true hc.2.1
        generalize DomA.rdL kn (m : Int) = cs at hfz hr4 hl4 HQ1 HCL hxn
        have HR4 := Aside0.mk hr4
        clear hq hq1 hq2 hO hc hTL hr4 hxn hl4
        go_wp2
        clear b0 b1 b2 hfz hxo
        go_loopw [37] (fun vi w5 => ∃ (j : Nat) (P' : List (List Int)), vi = .int .i64 (j : Int) ∧ j ≤ cs.length ∧ Aside0 (derB of fr (cs.drop j) P' = some P2) ∧ Aside0 (TO w3 (fun _ => True) A3 ls.length c3 P' w5) ∧ Aside0 (Below w3.heap.size w3 w5)) (fun vi _ => cs.length - (intOf vi).toNat)
        case atStart => exact ⟨0, _, rfl, Nat.zero_le _, ⟨by rw [List.drop_zero]; exact HQ1.out⟩, hT, hB⟩
        case round =>
          obtain ⟨j, P', rfl, hj, hO, hT2, hB2⟩ := hrel
          clear HQ1 hT hB
          by_cases hlt2 : j < cs.length
          · obtain ⟨ad4, e4, hx4⟩ := Kd.at_int (Kd.C_below HR4.out hB2.out) (j : Int) (by omega) (by omega)
            subst e4
            rw [Int.toNat_natCast] at hx4
            have hq := hO.out
            rw [PdC.drop_rd cs j hlt2] at hq
            simp only [derB] at hq
            generalize rd cs (j : Int) = t at hx4 hq
            have z0 : decide ((j : Int) < (cs.length : Int)) = true := decide_eq_true (by omega)
            have z1 : (j < cs.length) = True := eq_true hlt2
            by_cases c1 : 0 ≤ t
            · have z2 : decide (0 ≤ t) = true := decide_eq_true c1
              have z3 : (0 ≤ t) = True := eq_true c1
              by_cases c2 : t < (of.length : Int)
              · have z4 : decide (t < (of.length : Int)) = true := decide_eq_true c2
                have z5 : (t < (of.length : Int)) = True := eq_true c2
                obtain ⟨_, et, hxt⟩ := Kd.at_int (Kd.C_below CO.out hB2.out) t c1 c2
                injection et with et
                subst et
                by_cases c3 : rd of t = fr
                · have z6 : (rd of t == fr) = true := beq_iff_eq.mpr c3
                  have HQ := Aside0.mk (show derB of fr (cs.drop (j + 1)) P' = some P2 from by rw [if_neg (fun h => h.2.2 c3)] at hq; exact hq)
                  clear hq hO
                  go_wp2
                  go_roundw
                  case rel => exact ⟨j + 1, P', by rw [PdC.wnext j (by have := HCL.out; omega)], hlt2, HQ, hT2, hB2⟩
                  case measure => rw [PdC.wnext j (by have := HCL.out; omega)]; simp only [intOf, Int.toNat_natCast]; omega
                · have z6 : (rd of t == fr) = false := beq_eq_false_iff_ne.mpr c3
                  rw [if_pos ⟨c1, c2, c3⟩] at hq
                  split at hq
                  rotate_left
                  · cases hq
                  rename_i hbig
                  obtain ⟨g, eg⟩ := TO.addr hT2.out (by have := FR0.out; have := FR1.out; omega)
                  subst eg
                  obtain ⟨A5, c5, oki, _, _, hw3, hx5, hr5, hok5, hput⟩ := TO.elem (show TO w3 (fun _ => True) (some ⟨g, 0, none⟩) ls.length _ P' wr.drew from Kd.S_drew hT2.out) fr FR0.out FR1.out
                  have hxt2 : wr.drew.cell? (ado.add t.toNat) = some (.int .i64 (rd of t)) := hxt
                  have HBD := Aside0.mk (below_drew1 hB2.out)
                  obtain ⟨el, hel⟩ : ∃ el, el = DomA.rdL P' fr := ⟨_, rfl⟩
                  rw [← hel] at hx5 hr5 hput hq hbig
                  have HBIG := Aside0.mk hbig
                  have HQ := Aside0.mk hq
                  have HR5 := Aside0.mk hr5
                  have HPUT := Aside0.mk hput
                  have HW3 := Aside0.mk hw3
                  have f0 : (0 ≤ fr) = True := eq_true FR0.out
                  have f1 : (fr < (ls.length : Int)) = True := eq_true FR1.out
                  clear hbig hq hel hr5 hput hw3 hok5 hO
                  go_wp2
                  refine start_ (n := 14) (S := fun w' => w'.cell? ⟨g, fr.toNat, none⟩ = some (.slice A5 el.length c5) ∧ w'.cell? (ado.add t.toNat) = some (.int .i64 (rd of t))) (ds := [11, 13]) #[false, false, false, false, false, false, false, false, false, false, false, false, false, false] (by kernel_rfl) rfl rfl ⟨hx5, hxt2⟩ (fun hHeld => ?_)
                  generalize wr.drew = w9 at hx5 hxt2 HR5 HPUT HBD hHeld ⊢
                  refine pure_ (i := 0) (N := some 57) (v := ?_) (a' := ?_) #[true, false, false, false, false, false, false, false, false, false, false, false, false, false] rfl rfl (by kernel_rfl) (fun _ _ _ h => h) (Or.inl ⟨by rfl, ?_⟩) ?_ ?_
                  rotate_left
                  · intro w'
                    go_simp
                    with_reducible rfl
                  rotate_left
                  · simp only [Act.put, List.setIfInBounds_toArray, List.set_cons_zero, List.set_cons_succ, i64_w, i32_w]
                    rfl
                  refine pure_ (i := 1) (N := some 58) (v := ?_) (a' := ?_) #[true, true, false, false, false, false, false, false, false, false, false, false, false, false] rfl rfl (by kernel_rfl) (fun _ _ _ h => h) (Or.inl ⟨by rfl, ?_⟩) ?_ ?_
                  rotate_left
                  · intro w'
                    go_simp
                    with_reducible rfl
                  rotate_left
                  · simp only [Act.put, List.setIfInBounds_toArray, List.set_cons_zero, List.set_cons_succ, i64_w, i32_w]
                    rfl
                  refine pure_ (i := 2) (N := some 59) (v := ?_) (a' := ?_) #[true, true, true, false, false, false, false, false, false, false, false, false, false, false] rfl rfl (by kernel_rfl) (fun _ _ _ h => h) (Or.inl ⟨by rfl, ?_⟩) ?_ ?_
                  rotate_left
                  · intro w'
                    go_simp
                    with_reducible rfl
                  rotate_left
                  · simp only [Act.put, List.setIfInBounds_toArray, List.set_cons_zero, List.set_cons_succ, i64_w, i32_w]
                    rfl
                  refine pure_ (i := 3) (N := some 60) (v := ?_) (a' := ?_) #[true, true, true, true, false, false, false, false, false, false, false, false, false, false] rfl rfl (by kernel_rfl) (fun _ _ _ h => h) (Or.inl ⟨by rfl, ?_⟩) ?_ ?_
                  rotate_left
                  · intro w'
                    go_simp
                    with_reducible rfl
                  rotate_left
                  · simp only [Act.put, List.setIfInBounds_toArray, List.set_cons_zero, List.set_cons_succ, i64_w, i32_w]
                    rfl
                  refine pure_ (i := 4) (N := some 61) (v := ?_) (a' := ?_) #[true, true, true, true, true, false, false, false, false, false, false, false, false, false] rfl rfl (by kernel_rfl) (fun _ _ _ h => h) (Or.inl ⟨by rfl, ?_⟩) ?_ ?_
                  rotate_left
                  · intro w'
                    go_simp
                    with_reducible rfl
                  rotate_left
                  · simp only [Act.put, List.setIfInBounds_toArray, List.set_cons_zero, List.set_cons_succ, i64_w, i32_w]
                    rfl
                  refine pure_ (i := 6) (N := some 63) (v := ?_) (a' := ?_) #[true, true, true, true, true, false, true, false, false, false, false, false, false, false] rfl rfl (by kernel_rfl) (fun _ _ _ h => h) (Or.inl ⟨by rfl, ?_⟩) ?_ ?_
                  rotate_left
                  · intro w'
                    go_simp
                    with_reducible rfl
                  rotate_left
                  · simp only [Act.put, List.setIfInBounds_toArray, List.set_cons_zero, List.set_cons_succ, i64_w, i32_w]
                    rfl
                  refine pure_ (i := 7) (N := some 64) (v := ?_) (a' := ?_) #[true, true, true, true, true, false, true, true, false, false, false, false, false, false] rfl rfl (by kernel_rfl) (fun _ _ _ h => h) (Or.inl ⟨by rfl, ?_⟩) ?_ ?_
                  rotate_left
                  · intro w'
                    go_simp
                    with_reducible rfl
                  rotate_left
                  · simp only [Act.put, List.setIfInBounds_toArray, List.set_cons_zero, List.set_cons_succ, i64_w, i32_w]
                    rfl
                  refine pure_ (i := 8) (N := some 65) (v := ?_) (a' := ?_) #[true, true, true, true, true, false, true, true, true, false, false, false, false, false] rfl rfl (by kernel_rfl) (fun _ _ _ h => h) (Or.inl ⟨by rfl, ?_⟩) ?_ ?_
                  rotate_left
                  · intro w'
                    go_simp
                    with_reducible rfl
                  rotate_left
                  · simp only [Act.put, List.setIfInBounds_toArray, List.set_cons_zero, List.set_cons_succ, i64_w, i32_w]
                    rfl
                  refine take_ (i := 5) (N := some 62) (v := ?_) (a' := ?_) #[true, true, true, true, true, true, true, true, true, false, false, false, false, false] rfl rfl (by kernel_rfl) (fun _ _ _ h => h) (Or.inl ⟨by rfl, ?_⟩) hHeld ?_ ?_
                  rotate_left
                  · rintro w' ⟨s0, s1⟩
                    go_simp
                    with_reducible rfl
                  rotate_left
                  · simp only [Act.put, List.setIfInBounds_toArray, List.set_cons_zero, List.set_cons_succ, i64_w, i32_w]
                    rfl
                  refine take_ (i := 9) (N := some 66) (v := ?_) (a' := ?_) #[true, true, true, true, true, true, true, true, true, true, false, false, false, false] rfl rfl (by kernel_rfl) (fun _ _ _ h => h) (Or.inl ⟨by rfl, ?_⟩) hHeld ?_ ?_
                  rotate_left
                  · rintro w' ⟨s0, s1⟩
                    go_simp
                    with_reducible rfl
                  rotate_left
                  · simp only [Act.put, List.setIfInBounds_toArray, List.set_cons_zero, List.set_cons_succ, i64_w, i32_w]
                    rfl
                  refine one_ (i := 10) (N := some 67) #[true, true, true, true, true, true, true, true, true, true, true, false, false, false] rfl rfl (by kernel_rfl) (by decide) (fun K hK => ?_)
                  refine value_ (w1 := ?_) (v := ?_) (by rfl) rfl ?_ ?_
                  rotate_left 2
                  · go_simp
                    constructor
                    · rfl
                    · rfl
                  refine hK.out _ _ ⟨((below_alloc (Below.refl _ _) _).cell (World.block_lt_of_cell? _ _ hx5)).trans hx5, ((below_alloc (Below.refl _ _) _).cell (World.block_lt_of_cell? _ _ hxt2)).trans hxt2⟩ (fun hHeld => ?_)
                  clear hK K
                  refine norm_ (a' := ?_) ?_ ?_
                  rotate_left
                  · show Act.put _ (some 67) _ = _
                    simp only [Act.put, List.setIfInBounds_toArray, List.set_cons_zero, List.set_cons_succ, i64_w, i32_w]
                    rfl
                  refine last_ (i := 11) (N := some 68) #[true, true, true, true, true, true, true, true, true, true, true, true, false, false] rfl rfl (by kernel_rfl) (by decide) (fun K hK => ?_)
                  refine Kd.R_append_step (Kd.int .i64) (w0 := w3) w3.heap.size (by rfl) (.tmp 62) (.tmp 67) 27 3 (.int .i64 0) 8 rfl Try.underlying27 DomA.infoI rfl (by decide) (by omega) (.slice A5 el.length c5) el (rd of t) [.int .i64 (rd of t)] (fun k_ => oki k_ ∨ True ∧ w9.heap.size ≤ k_) (fun _ => False) rfl rfl ?aP (fun _ hk => hk.elim) ?aF ?aO ?aB ?aS ?aL ?_
                  case aP => exact rfl
                  case aB => exact HBD.out
                  case aF => exact (fun k_ hk => .inr ⟨trivial, hk⟩)
                  case aO => exact Kd.R_mono HR5.out (fun _ hk => .inl hk)
                  case aS => exact below_size HBD.out
                  case aL => have := HBIG.out; omega
                  intro v10 w10 ho hb hg hat
                  obtain ⟨⟨u10, f10⟩, f11, hp10, hg10⟩ := HPUT.out w10 v10 _ ho hg
                  have T11 := Aside0.mk hp10
                  have B11 : Aside0 (Below w3.heap.size w3 (w10.setCell ⟨g, fr.toNat, none⟩ v10)) := ⟨below_set hb HW3.out⟩
                  obtain ⟨A10, c10, e10⟩ := Kd.R_slice ho
                  subst e10
                  clear ho hb hg hat hp10 hg10
                  refine hK.out _ _ ?_
                  clear hK K
                  refine norm_ (a' := ?_) ?_ ?_
                  rotate_left
                  · show Act.put _ (some 68) _ = _
                    simp only [Act.put, List.setIfInBounds_toArray, List.set_cons_zero, List.set_cons_succ, i64_w, i32_w]
                    rfl
                  refine pure_ (i := 12) (N := some 69) (v := ?_) (a' := ?_) #[true, true, true, true, true, true, true, true, true, true, true, true, true, false] rfl rfl (by kernel_rfl) (fun _ _ _ h => h) (Or.inl ⟨by rfl, ?_⟩) ?_ ?_
                  rotate_left
                  · intro w'
                    go_simp
                    with_reducible rfl
                  rotate_left
                  · simp only [Act.put, List.setIfInBounds_toArray, List.set_cons_zero, List.set_cons_succ, i64_w, i32_w]
                    rfl
                  refine last_ (i := 13) (N := none) #[true, true, true, true, true, true, true, true, true, true, true, true, true, true] rfl rfl (by kernel_rfl) (by decide) (fun K hK => ?_)
                  refine skip_ (w1 := ?_) (by rfl) rfl ?_ ?_
                  rotate_left
                  · go_simp
                    rfl
                  refine hK.out _ _ ?_
                  clear hK K
                  refine done_ (by kernel_rfl) ?_
                  go_wp2
                  go_roundw
                  case rel => exact ⟨j + 1, _, by rw [PdC.wnext j (by have := HCL.out; omega)], hlt2, HQ, ⟨by have := T11.out; rw [List.length_append] at this; exact this⟩, ⟨by have := B11.out; rw [List.length_append] at this; exact this⟩⟩
                  case measure => rw [PdC.wnext j (by have := HCL.out; omega)]; simp only [intOf, Int.toNat_natCast]; omega
              · have z4 : decide (t < (of.length : Int)) = false := decide_eq_false c2
                have HQ := Aside0.mk (show derB of fr (cs.drop (j + 1)) P' = some P2 from by rw [if_neg (fun h => c2 h.2.1)] at hq; exact hq)
                clear hq hO
                go_wp2
                go_roundw
                case rel => exact ⟨j + 1, P', by rw [PdC.wnext j (by have := HCL.out; omega)], hlt2, HQ, hT2, hB2⟩
                case measure => rw [PdC.wnext j (by have := HCL.out; omega)]; simp only [intOf, Int.toNat_natCast]; omega
            · have z2 : decide (0 ≤ t) = false := decide_eq_false c1
              have HQ := Aside0.mk (show derB of fr (cs.drop (j + 1)) P' = some P2 from by rw [if_neg (fun h => c1 h.1)] at hq; exact hq)
              clear hq hO
              go_wp2
              go_roundw
              case rel => exact ⟨j + 1, P', by rw [PdC.wnext j (by have := HCL.out; omega)], hlt2, HQ, hT2, hB2⟩
              case measure => rw [PdC.wnext j (by have := HCL.out; omega)]; simp only [intOf, Int.toNat_natCast]; omega
          · obtain rfl : j = cs.length := by omega
            have hq := hO.out
            rw [List.drop_length] at hq
            simp only [derB, Option.some.injEq] at hq
            subst hq
            have z0 : decide ((cs.length : Int) < (cs.length : Int)) = false := decide_eq_false (by omega)
            clear hlt2 hj hO
            go_wp2
            go_roundw
            case rel => exact ⟨m + 1, _, by rw [PdC.wnext m (by have := HG.out.2; omega)], hlt, HQ2, hT2, hB2⟩
            case measure => rw [PdC.wnext m (by have := HG.out.2; omega)]; simp only [intOf, Int.toNat_natCast]; omega
    · obtain rfl : m = of.length := by omega
      have hq := hO.out
      rw [Nat.sub_self] at hq
      simp only [derA, Option.some.injEq] at hq
      subst hq
      have y0 : decide ((of.length : Int) < (of.length : Int)) = false := decide_eq_false (by omega)
      clear hlt hm hO
      go_wp2
      have hTL := TO.len hT.out
      have HH2 : Aside0 (derC (ls.length - 0) 0 P = some r) := ⟨by rw [Nat.sub_zero, hTL]; exact HH.out⟩
      clear hTL HH
      go_loopw [74] (fun vi w5 => ∃ (m : Nat) (P : List (List Int)), vi = .int .i64 (m : Int) ∧ m ≤ ls.length ∧ Aside0 (derC (ls.length - m) m P = some r) ∧ Aside0 (TO w3 (fun _ => True) A3 ls.length c3 P w5) ∧ Aside0 (Below w3.heap.size w3 w5)) (fun vi _ => ls.length - (intOf vi).toNat)
      case atStart => exact ⟨0, _, rfl, Nat.zero_le _, HH2, hT, hB⟩
      case round =>
        obtain ⟨m, P, rfl, hm, hO, hT, hB⟩ := hrel
        clear HH2
        by_cases hlt : m < ls.length
        · have hq := hO.out
          rw [derC_step _ _ hlt] at hq
          split at hq
          rotate_left
          · cases hq
          rename_i hbig
          obtain ⟨g, eg⟩ := TO.addr hT.out (by omega)
          subst eg
          obtain ⟨A5, c5, oki, _, hne, hw3, hx5, hr5, hok5, hput⟩ := TO.elem hT.out (m : Int) (by omega) (by omega)
          rw [Int.toNat_natCast] at hx5 hput
          obtain ⟨el, hel⟩ : ∃ el, el = DomA.rdL P (m : Int) := ⟨_, rfl⟩
          rw [← hel] at hx5 hr5 hput hq hbig hne
          obtain ⟨sl, hsl⟩ : ∃ sl, sl = el.mergeSort fun x y => decide (x ≤ y) := ⟨_, rfl⟩
          rw [← hsl] at hq
          have A1 : Aside0 (slices_Sort_int_int.f el = some sl) := ⟨by unfold slices_Sort_int_int.f; rw [if_pos (by omega), hsl]⟩
          have A2 : Aside0 (slices_Compact_int_int.f sl = some (Lib.compact sl)) := ⟨by unfold slices_Compact_int_int.f; rw [if_pos (by rw [hsl, List.length_mergeSort]; omega)]⟩
          have HQ := Aside0.mk hq
          have HR5 := Aside0.mk hr5
          have HPUT := Aside0.mk hput
          have HW3 := Aside0.mk hw3
          have HNE := Aside0.mk hne
          have y0 : decide ((m : Int) < (ls.length : Int)) = true := decide_eq_true (by omega)
          have y1 : (m < ls.length) = True := eq_true hlt
          clear hbig hq hel hsl hr5 hput hw3 hok5 hne hO
          go_wp2_with (first | ((with_reducible refine gate_callee (f := 64) rfl ?_); refine goesL_ (some 81) rfl rfl Try.func64 (by kernel_rfl) rfl #[.slice A5 el.length c5] rfl (by (try simp only [List.map_toArray, List.map_cons, List.map_nil]); first | done | rfl) ?_; (with_reducible refine (slices_Sort_int_int.calls (fun k_ => some k_ = (.slice A5 el.length c5 : Value).ownBlock) (.slice A5 el.length c5) el sl w3 _ ?side1 ?side2 A1.out).mono ?_); (case side1 => exact hB.out); (case side2 => exact Kd.R_tight rfl HR5.out); rintro e w6 ⟨rfl, hy0, hb6, hk6⟩; refine ⟨_, rfl, ?_⟩; have hx6 := cell_kept hx5 hk6 HNE.out; have R6 := Aside0.mk hy0; have B6 := Aside0.mk hb6; have K6 := Aside0.mk hk6; clear hy0 hb6 hk6) | ((with_reducible refine gate_callee (f := 65) rfl ?_); refine goesL_ (some 88) rfl rfl Try.func65 (by kernel_rfl) rfl #[.slice A5 el.length c5] rfl (by (try simp only [List.map_toArray, List.map_cons, List.map_nil]); first | done | rfl) ?_; (with_reducible refine (slices_Compact_int_int.calls (fun k_ => some k_ = (.slice A5 el.length c5 : Value).ownBlock) (.slice A5 el.length c5) sl (Lib.compact sl) w3 _ ?side1 ?side2 A2.out).mono ?_); (case side1 => exact B6.out); (case side2 => exact Kd.R_tight rfl R6.out); rintro e w7 ⟨v7, rfl, ho7, hb7, hk7⟩; refine ⟨_, rfl, ?_⟩; obtain ⟨⟨u10, f10⟩, f11, hp10, hg10⟩ := HPUT.out w7 v7 _ (Kd.R_mono ho7 (fun k_ hk => Or.elim hk (fun h => .inl (HR5.out.1 k_ h.symm)) (fun h => .inr ⟨trivial, Nat.le_trans K6.out.1 h⟩))) (grown_of_kept hB.out hb7 (K6.out.then_ hk7 (fun _ h => .inl h))); have T11 := Aside0.mk hp10; have B11 : Aside0 (Below w3.heap.size w3 (w7.setCell ⟨g, m, none⟩ v7)) := ⟨below_set hb7 HW3.out⟩; obtain ⟨A10, c10, e10⟩ := Kd.R_slice ho7; subst e10; clear ho7 hb7 hk7 hp10 hg10))
          go_roundw
          case rel => exact ⟨m + 1, _, by rw [PdC.wnext m (by have := HG.out.1; omega)], hlt, HQ, T11, B11⟩
          case measure => rw [PdC.wnext m (by have := HG.out.1; omega)]; simp only [intOf, Int.toNat_natCast]; omega
        · obtain rfl : m = ls.length := by omega
          have hq := hO.out
          rw [Nat.sub_self] at hq
          simp only [derC, Option.some.injEq] at hq
          subst hq
          have y0 : decide ((ls.length : Int) < (ls.length : Int)) = false := decide_eq_false (by omega)
          clear hlt hm hO
          go_wp2
          go_ret
          exact ⟨_, rfl, Kd.S_lower hT.out (below_size B3.out), below_step B3.out hB.out⟩
end Go.Proofs.Ytfiffhcpgojkhaa.QInterParts
