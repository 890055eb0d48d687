/- The law ExprTypes of the given program returns true for every input, and leaves its arguments as they were; its package-level tables start as the program's text lays them (the card ties them; it speaks of the pruned copy of the project that the seat loads). No other condition. -/
import Derived.Test.YtfioegoeeflkbaaDoorTie
import Derived.Test.YtfioegoeeflkbaaDoorCards
import Derived.Test.YtfioegoeeflkbaaDoorLits
import Derived.Test.YtfioegoeeflkbaaDoorQExprTypesxT
import Derived.WalkKit
import Derived.ProofKit
import Derived.OpenShut
import Derived.ShutString
import Derived.ChangeOld
import Derived.Below
import Derived.SizedLaws
import Derived.Deep.DeepHandedRow
import Derived.Lib.LaidTab
import Derived.MakeChecks
import Derived.FnData
import Derived.Test.YtfioegoeeflkbaaDoorGExpr
import Derived.Test.YtfioegoeeflkbaaDoorPureExprTypes
namespace Go.Proofs.YtfioegoeeflkbaaDoor.RExprTypes
open Go.ChangeShapes Go.WideShapes Go.ChangeAt Go.RowKit Go.Proofs.YtfioegoeeflkbaaDoor Go.Proofs.YtfioegoeeflkbaaDoor.QExprTypes Go.Proofs.YtfioegoeeflkbaaDoorW.PrintWords
open Go.ChangeMaps (open_string shut_string)
set_option linter.unusedVariables false
theorem own : ownKnob Tryd.prog.godebug = none := by kernel_rfl
theorem laidOut : laidOutB Tryd.prog = true := by kernel_rfl
theorem g0 : Tryd.prog.globalNamed "ladderback/alu.goes" = some 1 := by kernel_rfl
theorem q0_ : (Tryd.prog.globals[1]?).map (·.type) = some 179 := by kernel_rfl
theorem g1 : Tryd.prog.globalNamed "ladderback/block.rows" = some 0 := by kernel_rfl
theorem q1_ : (Tryd.prog.globals[0]?).map (·.type) = some 178 := by kernel_rfl
theorem tab_of {nm : String} {g : Nat} {cs : Array Value} {vs : List Value} {W : World} (hg : Tryd.prog.globalNamed nm = some g) (hv : W.var? Tryd.prog nm = some cs) (he : cs.toList = vs) : Tab g vs W := by
  have hc := fun i => World.var?_cell hg hv i
  refine ⟨?_, fun k v h => ?_⟩
  · simp only [World.var?, hg, Option.bind_some] at hv
    split at hv
    · rename_i heq; exact (Array.getElem?_eq_some_iff.1 heq).1
    · cases hv
  · rw [hc k, ← Array.getElem?_toList, he]; exact h
set_option maxRecDepth 100000 in
theorem table {W : World} (h : laidMetH Tryd.prog Rows.exprTypesRow.laid W) : Laid W := by
  rw [MakeChecks.laidMetH_plain _ _ _ (by kernel_rfl)] at h
  obtain ⟨ps, ⟨g0_, t0_, cs0, f0, p0, q0, hg0, ht0, hv0, hd0, ⟨g1_, t1_, cs1, f1, p1, q1, hg1, ht1, hv1, hd1, _, _⟩, _⟩, _, _⟩ := h
  obtain rfl := Option.some.inj (g0.symm.trans hg0)
  obtain rfl := Option.some.inj (q0_.symm.trans ht0)
  obtain rfl := Option.some.inj (g1.symm.trans hg1)
  obtain rfl := Option.some.inj (q1_.symm.trans ht1)
  have T0 := tab_of g0 hv0 (lits_cells (vs := aluCells) 9 _ _ _ _ hd0 (by kernel_rfl))
  have T1 := tab_of g1 hv1 (lits_cells (vs := blockCells) 9 _ _ _ _ hd1 (by kernel_rfl))
  exact ⟨T0, T1⟩
set_option maxRecDepth 100000 in
theorem contract (H : Type) (enc : TypeId × Value → H) (W : World) (base : Nat) (args : Array Value) (ds gs : List (DataW H)) (before : List MemPlace)
    (hval : ∀ (j : Nat) t v, Tryd.f3.params[j]? = some t → args[j]? = some v → Value.okWide Tryd.prog W .any base t v)
    (hW : DataW.Whole enc Tryd.prog Tryd.f3.params.toList Rows.exprTypesSpec.vars false W args.toList ds gs before)
    (hsz0 : (DataW.weightsEach Tryd.prog (Tryd.f3.params.toList ++ Rows.exprTypesSpec.plain.varTypes Tryd.prog) (ds ++ gs)).all (· ≤ reachBytes) = true) (hL : laidMetH Tryd.prog Rows.exprTypesRow.laid W) :
    Calls Tryd.prog 3 args W fun e W' => ∃ v, e = .returned v ∧ Rows.exprTypesSpec.post enc Tryd.prog Tryd.f3 false true false false W args v W' := by
  have hsz := hsz0
  have hW' := hW
  obtain ⟨p, q, hA0, hV, rfl, hfz, hnd⟩ := hW
  have hA : DataW.TrodAll enc Tryd.prog W 0 (fun _ => true) true Tryd.f3.params.toList args.toList ds p := hA0
  rw [Tryd.params3] at hA hval hsz
  obtain ⟨v0, vs0, d0, ds0, p0, q0, hargs, rfl, rfl, h0, r0⟩ := trodAll_cons hA
  obtain ⟨v1, vs1, d1, ds1, p1, q1, rfl, rfl, rfl, h1, r1⟩ := trodAll_cons r0
  obtain ⟨v2, vs2, d2, ds2, p2, q2, rfl, rfl, rfl, h2, r2⟩ := trodAll_cons r1
  obtain ⟨rfl, rfl, rfl⟩ := trodAll_nil r2
  obtain rfl : args = #[v0, v1, v2] := by cases args; simp_all
  obtain ⟨rfl, rfl⟩ := trodVars_none hV
  have k0 := h0
  have lt0 : ∀ x ∈ p0, x.block < W.heap.size := by obtain ⟨m, hm⟩ := k0; exact DataW.trod_lt m _ _ _ hm
  have k1 := h1
  have lt1 : ∀ x ∈ p1, x.block < W.heap.size := by obtain ⟨m, hm⟩ := k1; exact DataW.trod_lt m _ _ _ hm
  have k2 := h2
  have lt2 : ∀ x ∈ p2, x.block < W.heap.size := by obtain ⟨m, hm⟩ := k2; exact DataW.trod_lt m _ _ _ hm
  obtain ⟨y0, cs0, rfl, hK0, hW0⟩ := open_struct_kd Tryd.underlying27 t27 (hval 0 27 v0 rfl rfl) h0
  obtain ⟨A0_0, c0_0, A0_1, c0_1, A0_2, c0_2, A0_3, c0_3, rfl, hl0_0, hc0_0, hl0_1, hc0_1, hl0_2, hc0_2, hl0_3, hc0_3⟩ := k27_open hK0
  obtain ⟨y1, rfl, e1, _, hW1⟩ := open_int Tryd.underlying3 (hval 1 3 v1 rfl rfl) h1
  obtain ⟨y2, cs2, rfl, hK2, hW2⟩ := open_struct_kd Tryd.underlying30 t30 (hval 2 30 v2 rfl rfl) h2
  obtain ⟨A2_4, c2_4, rfl, hl2_4, hc2_4⟩ := k30_open hK2
  clear hA0 hsz0 hsz
  obtain ⟨k, h⟩ := Pure.ExprTypes y0 hW0 y1 hW1 y2 hW2
  refine (ladderbacklaw26_ExprTypes.calls (k := k) (r := true) (w := W) (hr0_0 := hc0_0) (hc0_0 := hl0_0) (hr0_1 := hc0_1) (hc0_1 := hl0_1) (hr0_2 := hc0_2) (hc0_2 := hl0_2) (hr0_3 := hc0_3) (hc0_3 := hl0_3) (hr2_4 := hc2_4) (hc2_4 := hl2_4) (h := h) (hL_ := table hL)).mono fun e W' ⟨he, bel⟩ => ?_
  subst he
  exact ⟨_, rfl, _, _, _, [], _, [], hW', trodAll_mk1 (shut_bool Tryd.underlying4 _), (trodAll_cons_mk (Below.trod laidOut (by kernel_rfl) (of_decide_eq_true (by kernel_rfl)) k0 bel lt0) (trodAll_cons_mk (Below.trod laidOut (by kernel_rfl) (of_decide_eq_true (by kernel_rfl)) k1 bel lt1) (trodAll_cons_mk (Below.trod laidOut (by kernel_rfl) (of_decide_eq_true (by kernel_rfl)) k2 bel lt2) trodAll_mk0))), rfl, bel.frame _, fun h => by cases h⟩
noncomputable def laidWorld (os : Os) : World := { World.holding Tryd.prog os ⟨#[], #[], []⟩ with heap := (((World.holding Tryd.prog os ⟨#[], #[], []⟩).heap.modify 1 fun | .cells _ t frozen => .cells (aluCells).toArray t frozen | o => o).modify 0 fun | .cells _ t frozen => .cells (blockCells).toArray t frozen | o => o) }
theorem laid_met (os : Os) : laidMet Tryd.prog Rows.exprTypesRow.laid ((laidWorld os).forCall (fun _ _ => 0) ⟨#[], #[.agg #[.slice none 0 0, .slice none 0 0, .slice none 0 0, .slice none 0 0], .int .i64 0, .agg #[.int .i64 0, .int .i64 0, .int .i64 0, .int .i64 0, .slice none 0 0]], []⟩).memory :=
  laidMet_of_run' 9 (by kernel_rfl) (by kernel_rfl)
theorem reads (os : Os) {H : Type} (enc : TypeId × Value → H) : ∃ ds places, DataW.whole enc Tryd.prog ((laidWorld os).forCall (fun _ _ => 0) ⟨#[], #[.agg #[.slice none 0 0, .slice none 0 0, .slice none 0 0, .slice none 0 0], .int .i64 0, .agg #[.int .i64 0, .int .i64 0, .int .i64 0, .int .i64 0, .slice none 0 0]], []⟩).memory Tryd.f3.params.toList Rows.exprTypesSpec.vars false (#[.agg #[.slice none 0 0, .slice none 0 0, .slice none 0 0, .slice none 0 0], .int .i64 0, .agg #[.int .i64 0, .int .i64 0, .int .i64 0, .int .i64 0, .slice none 0 0]] : Array Value).toList 9 = some (ds, [], places) :=
  ⟨[.agg [.nil, .nil, .nil, .nil], .lit (.int .i64 0), .agg [.lit (.int .i64 0), .lit (.int .i64 0), .lit (.int .i64 0), .lit (.int .i64 0), .nil]], [], by kernel_rfl⟩
set_option maxRecDepth 100000 in
theorem lifted (os : Os) (started : os.Started) (H : Type) (enc : TypeId × Value → H) (F : Stop.Interp) :
    ReturnsInHanded {} Tryd.checked os 3 .any ((OpenSpec.ofChange Rows.exprTypesSpec).preRow enc Tryd.prog Tryd.f3 Rows.exprTypesRow.domain false Rows.exprTypesRow.laid) (((OpenSpec.ofChange Rows.exprTypesSpec).at F).post enc Tryd.prog Tryd.f3 false true false false) := by
  obtain ⟨ds0, places, hx⟩ := reads os enc
  refine returnsInHanded_of_row (C := Tryd.checked) (s := OpenSpec.ofChange Rows.exprTypesSpec) own started (by kernel_rfl) Tryd.func3
    (witness_row_at (enc := enc) (C := Tryd.checked) false (laidWorld os) #[.agg #[.slice none 0 0, .slice none 0 0, .slice none 0 0, .slice none 0 0], .int .i64 0, .agg #[.int .i64 0, .int .i64 0, .int .i64 0, .int .i64 0, .slice none 0 0]] rfl (by kernel_rfl) (by kernel_rfl) (by kernel_rfl)
      (OpenSpec.preRow_of_cond 9 hx (by first | kernel_rfl | rfl) (fun k hk => by cases hk) (by first | kernel_rfl | rfl) (laid_met os))) ?_
  intro W base args ds gs before hval hW _ _ hsz hL _ _
  exact contract H enc W base args ds gs before hval hW hsz hL
theorem said : Rows.ExprTypesSaid :=
  OpenClaim.holds_of_cond 3 Tryd.f3 rfl rfl rfl rfl rfl rfl rfl ⟨rfl, rfl, rfl, rfl, rfl⟩ rfl rfl rfl rfl rfl (by kernel_rfl) Tryd.func3 (by kernel_rfl)
    (of_decide_eq_true (by kernel_rfl)) (by unfold Func.isWrapper; first | (rw [if_pos (by decide +kernel)]; kernel_rfl) | (rw [if_neg (by decide +kernel)]; exact ⟨rfl, rfl⟩))
    (fun os started H enc _ F => by rw [OpenClaim.pre_eq_preRow]; exact lifted os started H enc F)
theorem plain (f : FuncId) (fn : Func) (hf : Tryd.pinned.checked.prog.funcNamed "ladderback/ladderbacklaw26.ExprTypes" = some f) (hfn : Tryd.pinned.checked.prog.funcs[f]? = some fn) :
    false = Tryd.pinned.checked.prog.looks [] ∧ ∀ (j : Nat) t, fn.params[j]? = some t → Tryd.pinned.checked.prog.wantsStandIn t = false := by
  obtain rfl : f = 3 := Option.some.inj ((show Tryd.prog.funcNamed "ladderback/ladderbacklaw26.ExprTypes" = some 3 by kernel_rfl).symm.trans hf) |>.symm
  obtain rfl : fn = Tryd.f3 := (Option.some.inj (Tryd.func3.symm.trans hfn)).symm
  refine ⟨by kernel_rfl, fun j t ht => ?_⟩
  rw [Tryd.params3] at ht
  have hm : t ∈ [27, 3, 30] := by simpa using Array.mem_of_getElem? ht
  have hall : ([27, 3, 30].all fun u => !Tryd.prog.wantsStandIn u) = true := by kernel_rfl
  exact (show Tryd.prog.wantsStandIn t = false by simpa using List.all_eq_true.1 hall t hm)
end Go.Proofs.YtfioegoeeflkbaaDoor.RExprTypes
namespace Go.Proofs.YtfioegoeeflkbaaDoor
theorem exprTypes_holds : Rows.ExprTypesCardSaid :=
  Claim7.holds_tied_plain_at .later [] _ _ _ _ RExprTypes.said (fun _ h => by cases h) (by kernel_rfl) (fun _ h => by cases h) exprTypes_row_tie rfl ⟨rfl, rfl⟩ (by kernel_rfl) rfl RExprTypes.plain (by kernel_rfl)
#print axioms exprTypes_holds
end Go.Proofs.YtfioegoeeflkbaaDoor
