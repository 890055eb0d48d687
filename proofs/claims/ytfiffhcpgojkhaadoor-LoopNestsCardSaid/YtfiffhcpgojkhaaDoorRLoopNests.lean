/- The law LoopNests of the given program returns true for every input, and leaves its arguments as they were; its package-level tables start as the program's text lays them (the card ties them; it speaks of the pruned copy of the project that the seat loads). No other condition. -/
import Derived.Test.YtfiffhcpgojkhaaDoorTie
import Derived.Test.YtfiffhcpgojkhaaDoorCards
import Derived.Test.YtfiffhcpgojkhaaDoorLits
import Derived.Test.YtfiffhcpgojkhaaDoorQLoopNestsxT
import Derived.WalkKit
import Derived.ProofKit
import Derived.OpenShut
import Derived.ShutString
import Derived.ChangeOld
import Derived.Below
import Derived.SizedLaws
import Derived.Deep.DeepHandedRow
import Derived.Lib.LaidTab
import Derived.MakeChecks
import Derived.FnData
import Derived.Test.YtfiffhcpgojkhaaDoorTz
import Derived.Test.YtfiffhcpgojkhaaDoorPureLoopNests
namespace Go.Proofs.YtfiffhcpgojkhaaDoor.RLoopNests
open Go.ChangeShapes Go.WideShapes Go.ChangeAt Go.RowKit Go.Proofs.YtfiffhcpgojkhaaDoor Go.Proofs.YtfiffhcpgojkhaaDoor.QLoopNests Go.Proofs.YtfiffhcpgojkhaaDoorW.PrintWords
open Go.ChangeMaps (open_string shut_string)
set_option linter.unusedVariables false
theorem own : ownKnob Tryd.prog.godebug = none := by kernel_rfl
theorem laidOut : laidOutB Tryd.prog = true := by kernel_rfl
theorem g0 : Tryd.prog.globalNamed "math/bits.deBruijn64tab" = some 0 := by kernel_rfl
theorem q0_ : (Tryd.prog.globals[0]?).map (·.type) = some 89 := by kernel_rfl
theorem tab_of {nm : String} {g : Nat} {cs : Array Value} {vs : List Value} {W : World} (hg : Tryd.prog.globalNamed nm = some g) (hv : W.var? Tryd.prog nm = some cs) (he : cs.toList = vs) : Tab g vs W := by
  have hc := fun i => World.var?_cell hg hv i
  refine ⟨?_, fun k v h => ?_⟩
  · simp only [World.var?, hg, Option.bind_some] at hv
    split at hv
    · rename_i heq; exact (Array.getElem?_eq_some_iff.1 heq).1
    · cases hv
  · rw [hc k, ← Array.getElem?_toList, he]; exact h
set_option maxRecDepth 100000 in
theorem table {W : World} (h : laidMetH Tryd.prog Rows.loopNestsRow.laid W) : Laid W := by
  rw [MakeChecks.laidMetH_plain _ _ _ (by kernel_rfl)] at h
  obtain ⟨ps, ⟨g0_, t0_, cs0, f0, p0, q0, hg0, ht0, hv0, hd0, _, _⟩, _, _⟩ := h
  obtain rfl := Option.some.inj (g0.symm.trans hg0)
  obtain rfl := Option.some.inj (q0_.symm.trans ht0)
  have T0 := tab_of g0 hv0 (lits_cells (vs := dbCells) 9 _ _ _ _ hd0 (by kernel_rfl))
  exact T0
set_option maxRecDepth 100000 in
theorem contract (H : Type) (enc : TypeId × Value → H) (W : World) (base : Nat) (args : Array Value) (ds gs : List (DataW H)) (before : List MemPlace)
    (hval : ∀ (j : Nat) t v, Tryd.f4.params[j]? = some t → args[j]? = some v → Value.okWide Tryd.prog W .any base t v)
    (hW : DataW.Whole enc Tryd.prog Tryd.f4.params.toList Rows.loopNestsSpec.vars false W args.toList ds gs before)
    (hsz0 : (DataW.weightsEach Tryd.prog (Tryd.f4.params.toList ++ Rows.loopNestsSpec.plain.varTypes Tryd.prog) (ds ++ gs)).all (· ≤ reachBytes) = true) (hL : laidMetH Tryd.prog Rows.loopNestsRow.laid W) :
    Calls Tryd.prog 4 args W fun e W' => ∃ v, e = .returned v ∧ Rows.loopNestsSpec.post enc Tryd.prog Tryd.f4 false true false false W args v W' := by
  have hsz := hsz0
  have hW' := hW
  obtain ⟨p, q, hA0, hV, rfl, hfz, hnd⟩ := hW
  have hA : DataW.TrodAll enc Tryd.prog W 0 (fun _ => true) true Tryd.f4.params.toList args.toList ds p := hA0
  rw [Tryd.params4] at hA hval hsz
  obtain ⟨v0, vs0, d0, ds0, p0, q0, hargs, rfl, rfl, h0, r0⟩ := trodAll_cons hA
  obtain ⟨rfl, rfl, rfl⟩ := trodAll_nil r0
  obtain rfl : args = #[v0] := by cases args; simp_all
  obtain ⟨rfl, rfl⟩ := trodVars_none hV
  have k0 := h0
  have lt0 : ∀ x ∈ p0, x.block < W.heap.size := by obtain ⟨m, hm⟩ := k0; exact DataW.trod_lt m _ _ _ hm
  obtain ⟨y0, A0, c0, rfl, hl0, hc0, hW0⟩ := open_slice_kd (d := (Kd.slice 3 (Kd.int .i64))) Tryd.underlying22 (by kernel_rfl) (fun n => (trods_slice' (d := (Kd.int .i64)) Tryd.underlying26 (by kernel_rfl) (trods_int Tryd.underlying3 n))) (hval 0 22 v0 rfl rfl) h0
  clear hA0 hsz0 hsz
  obtain ⟨k, h⟩ := Pure.LoopNests y0 hW0
  refine (ladderbacklaw33_LoopNests.calls (k := k) (r := true) (w := W) (hr0 := hc0) (hc0 := hl0) (h := h) (hL_ := table hL)).mono fun e W' ⟨he, bel⟩ => ?_
  subst he
  exact ⟨_, rfl, _, _, _, [], _, [], hW', trodAll_mk1 (shut_bool Tryd.underlying4 _), (trodAll_cons_mk (Below.trod laidOut (by kernel_rfl) (of_decide_eq_true (by kernel_rfl)) k0 bel lt0) trodAll_mk0), rfl, bel.frame _, fun h => by cases h⟩
noncomputable def laidWorld (os : Os) : World := { World.holding Tryd.prog os ⟨#[], #[], []⟩ with heap := ((World.holding Tryd.prog os ⟨#[], #[], []⟩).heap.modify 0 fun | .cells _ t frozen => .cells (dbCells).toArray t frozen | o => o) }
theorem laid_met (os : Os) : laidMet Tryd.prog Rows.loopNestsRow.laid ((laidWorld os).forCall (fun _ _ => 0) ⟨#[], #[.slice none 0 0], []⟩).memory :=
  laidMet_of_run' 9 (by kernel_rfl) (by kernel_rfl)
theorem reads (os : Os) {H : Type} (enc : TypeId × Value → H) : ∃ ds places, DataW.whole enc Tryd.prog ((laidWorld os).forCall (fun _ _ => 0) ⟨#[], #[.slice none 0 0], []⟩).memory Tryd.f4.params.toList Rows.loopNestsSpec.vars false (#[.slice none 0 0] : Array Value).toList 9 = some (ds, [], places) :=
  ⟨[.nil], [], by kernel_rfl⟩
set_option maxRecDepth 100000 in
theorem lifted (os : Os) (started : os.Started) (H : Type) (enc : TypeId × Value → H) (F : Stop.Interp) :
    ReturnsInHanded {} Tryd.checked os 4 .any ((OpenSpec.ofChange Rows.loopNestsSpec).preRow enc Tryd.prog Tryd.f4 Rows.loopNestsRow.domain false Rows.loopNestsRow.laid) (((OpenSpec.ofChange Rows.loopNestsSpec).at F).post enc Tryd.prog Tryd.f4 false true false false) := by
  obtain ⟨ds0, places, hx⟩ := reads os enc
  refine returnsInHanded_of_row (C := Tryd.checked) (s := OpenSpec.ofChange Rows.loopNestsSpec) own started (by kernel_rfl) Tryd.func4
    (witness_row_at (enc := enc) (C := Tryd.checked) false (laidWorld os) #[.slice none 0 0] rfl (by kernel_rfl) (by kernel_rfl) (by kernel_rfl)
      (OpenSpec.preRow_of_cond 9 hx (by first | kernel_rfl | rfl) (fun k hk => by cases hk) (by first | kernel_rfl | rfl) (laid_met os))) ?_
  intro W base args ds gs before hval hW _ _ hsz hL _ _
  exact contract H enc W base args ds gs before hval hW hsz hL
theorem said : Rows.LoopNestsSaid :=
  OpenClaim.holds_of_cond 4 Tryd.f4 rfl rfl rfl rfl rfl rfl rfl ⟨rfl, rfl, rfl, rfl, rfl⟩ rfl rfl rfl rfl rfl (by kernel_rfl) Tryd.func4 (by kernel_rfl)
    (of_decide_eq_true (by kernel_rfl)) (by unfold Func.isWrapper; first | (rw [if_pos (by decide +kernel)]; kernel_rfl) | (rw [if_neg (by decide +kernel)]; exact ⟨rfl, rfl⟩))
    (fun os started H enc _ F => by rw [OpenClaim.pre_eq_preRow]; exact lifted os started H enc F)
theorem plain (f : FuncId) (fn : Func) (hf : Tryd.pinned.checked.prog.funcNamed "ladderback/ladderbacklaw33.LoopNests" = some f) (hfn : Tryd.pinned.checked.prog.funcs[f]? = some fn) :
    false = Tryd.pinned.checked.prog.looks [] ∧ ∀ (j : Nat) t, fn.params[j]? = some t → Tryd.pinned.checked.prog.wantsStandIn t = false := by
  obtain rfl : f = 4 := Option.some.inj ((show Tryd.prog.funcNamed "ladderback/ladderbacklaw33.LoopNests" = some 4 by kernel_rfl).symm.trans hf) |>.symm
  obtain rfl : fn = Tryd.f4 := (Option.some.inj (Tryd.func4.symm.trans hfn)).symm
  refine ⟨by kernel_rfl, fun j t ht => ?_⟩
  rw [Tryd.params4] at ht
  have hm : t ∈ [22] := by simpa using Array.mem_of_getElem? ht
  have hall : ([22].all fun u => !Tryd.prog.wantsStandIn u) = true := by kernel_rfl
  exact (show Tryd.prog.wantsStandIn t = false by simpa using List.all_eq_true.1 hall t hm)
end Go.Proofs.YtfiffhcpgojkhaaDoor.RLoopNests
namespace Go.Proofs.YtfiffhcpgojkhaaDoor
theorem loopNests_holds : Rows.LoopNestsCardSaid :=
  Claim7.holds_tied_plain_at .later [] _ _ _ _ RLoopNests.said (fun _ h => by cases h) (by kernel_rfl) (fun _ h => by cases h) loopNests_row_tie rfl ⟨rfl, rfl⟩ (by kernel_rfl) rfl RLoopNests.plain (by kernel_rfl)
#print axioms loopNests_holds
end Go.Proofs.YtfiffhcpgojkhaaDoor
