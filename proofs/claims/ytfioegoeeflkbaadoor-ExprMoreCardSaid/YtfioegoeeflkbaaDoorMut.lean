/- Kinds nested in themselves by way of another kind: what holds of the least fixed kind holds of some finite depth. No condition. -/
import Derived.Test.YtfioegoeeflkbaaDoorWWords
namespace Go.Proofs.YtfioegoeeflkbaaDoor
open Go.RowKit Go.Proofs.YtfioegoeeflkbaaDoorW.PrintWords
section
variable {α β γ : Type} {F : Kd α → Kd α} {sz : Nat} {E : List Nat} {hs : ∀ n, (Kd.upto F sz E n).sz = sz} {hE : ∀ n q, q ∈ (Kd.upto F sz E n).E → q ∈ E}
/-- What holds of G at F's fixed kind holds of G at some depth. -/
structure Cont (F : Kd α → Kd α) (sz : Nat) (E : List Nat) (hs : ∀ n, (Kd.upto F sz E n).sz = sz) (hE : ∀ n q, q ∈ (Kd.upto F sz E n).E → q ∈ E) (G : Kd α → Kd β) : Prop where
  K : ∀ w x cs, (G (Kd.fix F sz E hs hE)).K w x cs → ∃ n, (G (Kd.upto F sz E n)).K w x cs
  M : ∀ w base ok x cs, (G (Kd.fix F sz E hs hE)).M w base ok x cs → ∃ n, (G (Kd.upto F sz E n)).M w base ok x cs
theorem cont_const (k : Kd β) : Cont F sz E hs hE (fun _ => k) := ⟨fun _ _ _ h => ⟨0, h⟩, fun _ _ _ _ _ h => ⟨0, h⟩⟩
theorem cont_slice (hm : Kd.Mono F) (e : Nat) : Cont F sz E hs hE (fun d => Kd.slice e d) := by
  refine ⟨?_, ?_⟩
  · rintro w x cs ⟨A, c, rfl, hl, hr⟩
    obtain ⟨n, hn⟩ := Kd.fix_C_back hm hr
    exact ⟨n, A, c, rfl, hl, hn⟩
  · rintro w base ok x cs ⟨v, rfl, hr⟩
    obtain ⟨n, hn⟩ := Kd.fix_R_back hm hr
    exact ⟨n, v, rfl, hn⟩
theorem mono_K {G : Kd α → Kd β} (hm : Kd.Mono F) (hs : ∀ n, (Kd.upto F sz E n).sz = sz) (hG : Kd.Mono G) {n m : Nat} (h : n ≤ m) {w : World} {x : β} {cs : List Value} (hk : (G (Kd.upto F sz E n)).K w x cs) : (G (Kd.upto F sz E m)).K w x cs :=
  hG.K _ _ (by rw [hs n, hs m]) (fun w x cs hk => Kd.upto_K_le hm hs h hk) w x cs hk
theorem mono_M {G : Kd α → Kd β} (hm : Kd.Mono F) (hs : ∀ n, (Kd.upto F sz E n).sz = sz) (hG : Kd.Mono G) {n m : Nat} (h : n ≤ m) {w : World} {base : Nat} {ok : Nat → Prop} {x : β} {cs : List Value} (hk : (G (Kd.upto F sz E n)).M w base ok x cs) : (G (Kd.upto F sz E m)).M w base ok x cs :=
  hG.M _ _ (by rw [hs n, hs m]) (fun w base ok x cs hk => Kd.upto_M_le hm hs h hk) w base ok x cs hk
theorem cont_pair (hm : Kd.Mono F) (hs : ∀ n, (Kd.upto F sz E n).sz = sz) {hE : ∀ n q, q ∈ (Kd.upto F sz E n).E → q ∈ E} {G : Kd α → Kd β} {H : Kd α → Kd γ} (hG : Kd.Mono G) (hH : Kd.Mono H) (cG : Cont F sz E hs hE G) (cH : Cont F sz E hs hE H) : Cont F sz E hs hE (fun d => Kd.pair (G d) (H d)) := by
  refine ⟨?_, ?_⟩
  · rintro w x cs ⟨c0, c1, rfl, h0, h1⟩
    obtain ⟨n, hn⟩ := cG.K _ _ _ h0
    obtain ⟨m, hm'⟩ := cH.K _ _ _ h1
    exact ⟨max n m, c0, c1, rfl, mono_K hm hs hG (Nat.le_max_left _ _) hn, mono_K hm hs hH (Nat.le_max_right _ _) hm'⟩
  · rintro w base ok x cs ⟨c0, c1, rfl, h0, h1⟩
    obtain ⟨n, hn⟩ := cG.M _ _ _ _ _ h0
    obtain ⟨m, hm'⟩ := cH.M _ _ _ _ _ h1
    exact ⟨max n m, c0, c1, rfl, mono_M hm hs hG (Nat.le_max_left _ _) hn, mono_M hm hs hH (Nat.le_max_right _ _) hm'⟩
theorem cont_iso {G : Kd α → Kd β} (f : γ → β) (hG : Cont F sz E hs hE G) : Cont F sz E hs hE (fun d => Kd.iso (G d) f) := ⟨fun w x cs h => hG.K w (f x) cs h, fun w base ok x cs h => hG.M w base ok (f x) cs h⟩
theorem cont_R {G : Kd α → Kd β} (hm : Kd.Mono F) (hG : Kd.Mono G) (cG : Cont F sz E hs hE G) {e : Nat} {w : World} {base : Nat} {ok : Nat → Prop} {v : Value} {xs : List β} (h : (G (Kd.fix F sz E hs hE)).R e w base ok v xs) : ∃ n, (G (Kd.upto F sz E n)).R e w base ok v xs := by
  obtain ⟨h0, inner, ho, hr⟩ := h
  have hsz : ∀ n, (G (Kd.upto F sz E n)).sz = (G (Kd.fix F sz E hs hE)).sz := fun n => hG.sz _ _ (hs n)
  obtain ⟨N, hN⟩ := Kd.reps_bounded (R := fun n p c => (G (Kd.upto F sz E n)).M w base (fun k => ok k ∧ some k ≠ v.ownBlock) p c) (fun n m p c hnm hp => mono_M hm hs hG hnm hp) (hr.imp_ (fun p c hp => cG.M _ _ _ _ _ hp))
  refine ⟨N, h0, inner, ?_, ?_⟩
  · rw [hsz N]; exact ho
  · rw [hsz N]; exact hN
theorem cont_C {G : Kd α → Kd β} (hm : Kd.Mono F) (hG : Kd.Mono G) (cG : Cont F sz E hs hE G) {w : World} {A : Option Addr} {m : Nat} {xs : List β} (h : (G (Kd.fix F sz E hs hE)).C w A m xs) : ∃ n, (G (Kd.upto F sz E n)).C w A m xs := by
  have hsz : ∀ n, (G (Kd.upto F sz E n)).sz = (G (Kd.fix F sz E hs hE)).sz := fun n => hG.sz _ _ (hs n)
  rcases Nat.eq_zero_or_pos m with hz | hpos
  · subst hz
    exact ⟨0, h.1, h.2.1, fun hp => absurd hp (Nat.lt_irrefl 0)⟩
  · obtain ⟨ad, e, hc⟩ := h.2.2 hpos
    obtain ⟨N, hN⟩ := Kd.bounded (P := fun n j => ∀ p, xs[j]? = some p → ∃ c, c.length = (G (Kd.fix F sz E hs hE)).sz ∧ (G (Kd.upto F sz E n)).K w p c ∧ ∀ i u, c[i]? = some u → w.cell? (ad.add (j * (G (Kd.fix F sz E hs hE)).sz + i)) = some u)
      (fun n n' j hnm hp p hj => by
        obtain ⟨c, h1, h2, h3⟩ := hp p hj
        exact ⟨c, h1, mono_K hm hs hG hnm h2, h3⟩) xs.length
      (fun j hj => by
        obtain ⟨c, h1, h2, h3⟩ := hc j _ (List.getElem?_eq_getElem hj)
        obtain ⟨n, h2⟩ := cG.K _ _ _ h2
        refine ⟨n, fun p hp => ?_⟩
        rw [List.getElem?_eq_getElem hj] at hp
        injection hp with hp
        rw [← hp]
        exact ⟨c, h1, h2, h3⟩)
    refine ⟨N, h.1, h.2.1, fun _ => ⟨ad, e, fun j p hj => ?_⟩⟩
    rw [hsz N]
    exact hN j (List.getElem?_eq_some_iff.1 hj).1 p hj
end
end Go.Proofs.YtfioegoeeflkbaaDoor
