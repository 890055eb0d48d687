/- The law ExprTells of the given program returns true for every input, and leaves its arguments as they were; its package-level tables start as the program's text lays them (the card ties them; it speaks of the pruned copy of the project that the seat loads). No other condition. -/
import Derived.Test.YticmkjkngngdhaaDoorTie
import Derived.Test.YticmkjkngngdhaaDoorCards
import Derived.Test.YticmkjkngngdhaaDoorLits
import Derived.Test.YticmkjkngngdhaaDoorQExprTellsxT
import Derived.WalkKit
import Derived.ProofKit
import Derived.OpenShut
import Derived.ShutString
import Derived.ChangeOld
import Derived.Below
import Derived.SizedLaws
import Derived.Deep.DeepHandedRow
import Derived.Lib.LaidTab
import Derived.MakeChecks
import Derived.FnData
import Derived.Test.YticmkjkngngdhaaDoorGExpr
import Derived.Test.YticmkjkngngdhaaDoorPureExprTells
namespace Go.Proofs.YticmkjkngngdhaaDoor.RExprTells
open Go.ChangeShapes Go.WideShapes Go.ChangeAt Go.RowKit Go.Proofs.YticmkjkngngdhaaDoor Go.Proofs.YticmkjkngngdhaaDoor.QExprTells Go.Proofs.YticmkjkngngdhaaDoorW.PrintWords
open Go.ChangeMaps (open_string shut_string)
set_option linter.unusedVariables false
theorem own : ownKnob Tryd.prog.godebug = none := by kernel_rfl
theorem laidOut : laidOutB Tryd.prog = true := by kernel_rfl
theorem g0 : Tryd.prog.globalNamed "ladderback/alu.goes" = some 4 := by kernel_rfl
theorem q0_ : (Tryd.prog.globals[4]?).map (·.type) = some 143 := by kernel_rfl
theorem g1 : Tryd.prog.globalNamed "ladderback/block.rows" = some 0 := by kernel_rfl
theorem q1_ : (Tryd.prog.globals[0]?).map (·.type) = some 125 := by kernel_rfl
theorem tab_of {nm : String} {g : Nat} {cs : Array Value} {vs : List Value} {W : World} (hg : Tryd.prog.globalNamed nm = some g) (hv : W.var? Tryd.prog nm = some cs) (he : cs.toList = vs) : Tab g vs W := by
  have hc := fun i => World.var?_cell hg hv i
  refine ⟨?_, fun k v h => ?_⟩
  · simp only [World.var?, hg, Option.bind_some] at hv
    split at hv
    · rename_i heq; exact (Array.getElem?_eq_some_iff.1 heq).1
    · cases hv
  · rw [hc k, ← Array.getElem?_toList, he]; exact h
set_option maxRecDepth 100000 in
theorem table {W : World} (h : laidMetH Tryd.prog Rows.exprTellsRow.laid W) : Laid W := by
  rw [MakeChecks.laidMetH_plain _ _ _ (by kernel_rfl)] at h
  obtain ⟨ps, ⟨g0_, t0_, cs0, f0, p0, q0, hg0, ht0, hv0, hd0, ⟨g1_, t1_, cs1, f1, p1, q1, hg1, ht1, hv1, hd1, _, _⟩, _⟩, _, _⟩ := h
  obtain rfl := Option.some.inj (g0.symm.trans hg0)
  obtain rfl := Option.some.inj (q0_.symm.trans ht0)
  obtain rfl := Option.some.inj (g1.symm.trans hg1)
  obtain rfl := Option.some.inj (q1_.symm.trans ht1)
  have T0 := tab_of g0 hv0 (lits_cells (vs := aluCells) 9 _ _ _ _ hd0 (by kernel_rfl))
  have T1 := tab_of g1 hv1 (lits_cells (vs := blockCells) 9 _ _ _ _ hd1 (by kernel_rfl))
  exact ⟨T0, T1⟩
set_option maxRecDepth 100000 in
theorem contract (H : Type) (enc : TypeId × Value → H) (W : World) (base : Nat) (args : Array Value) (ds gs : List (DataW H)) (before : List MemPlace)
    (hval : ∀ (j : Nat) t v, Tryd.f11.params[j]? = some t → args[j]? = some v → Value.okWide Tryd.prog W .any base t v)
    (hW : DataW.Whole enc Tryd.prog Tryd.f11.params.toList Rows.exprTellsSpec.vars false W args.toList ds gs before)
    (hsz0 : (DataW.weightsEach Tryd.prog (Tryd.f11.params.toList ++ Rows.exprTellsSpec.plain.varTypes Tryd.prog) (ds ++ gs)).all (· ≤ reachBytes) = true) (hL : laidMetH Tryd.prog Rows.exprTellsRow.laid W) :
    Calls Tryd.prog 11 args W fun e W' => ∃ v, e = .returned v ∧ Rows.exprTellsSpec.post enc Tryd.prog Tryd.f11 false true false false W args v W' := by
  have hsz := hsz0
  have hW' := hW
  obtain ⟨p, q, hA0, hV, rfl, hfz, hnd⟩ := hW
  have hA : DataW.TrodAll enc Tryd.prog W 0 (fun _ => true) true Tryd.f11.params.toList args.toList ds p := hA0
  rw [Tryd.params11] at hA hval hsz
  obtain ⟨v0, vs0, d0, ds0, p0, q0, hargs, rfl, rfl, h0, r0⟩ := trodAll_cons hA
  obtain ⟨v1, vs1, d1, ds1, p1, q1, rfl, rfl, rfl, h1, r1⟩ := trodAll_cons r0
  obtain ⟨rfl, rfl, rfl⟩ := trodAll_nil r1
  obtain rfl : args = #[v0, v1] := by cases args; simp_all
  obtain ⟨rfl, rfl⟩ := trodVars_none hV
  have k0 := h0
  have lt0 : ∀ x ∈ p0, x.block < W.heap.size := by obtain ⟨m, hm⟩ := k0; exact DataW.trod_lt m _ _ _ hm
  have k1 := h1
  have lt1 : ∀ x ∈ p1, x.block < W.heap.size := by obtain ⟨m, hm⟩ := k1; exact DataW.trod_lt m _ _ _ hm
  obtain ⟨y0, cs0, rfl, hK0, hW0⟩ := open_struct_kd Tryd.underlying55 t55 (hval 0 55 v0 rfl rfl) h0
  obtain ⟨A0_4, c0_4, rfl, hl0_4, hc0_4⟩ := k55_open hK0
  obtain ⟨y1, cs1, rfl, hK1, hW1⟩ := open_struct_kd Tryd.underlying55 t55 (hval 1 55 v1 rfl rfl) h1
  obtain ⟨A1_4, c1_4, rfl, hl1_4, hc1_4⟩ := k55_open hK1
  clear hA0 hsz0 hsz
  obtain ⟨k, h⟩ := Pure.ExprTells y0 hW0 y1 hW1
  refine (ladderbacklaw26_ExprTells.calls (k := k) (r := true) (w := W) (hr0_4 := hc0_4) (hc0_4 := hl0_4) (hr1_4 := hc1_4) (hc1_4 := hl1_4) (h := h) (hL_ := table hL)).mono fun e W' ⟨he, bel⟩ => ?_
  subst he
  exact ⟨_, rfl, _, _, _, [], _, [], hW', trodAll_mk1 (shut_bool Tryd.underlying4 _), (trodAll_cons_mk (Below.trod laidOut (by kernel_rfl) (of_decide_eq_true (by kernel_rfl)) k0 bel lt0) (trodAll_cons_mk (Below.trod laidOut (by kernel_rfl) (of_decide_eq_true (by kernel_rfl)) k1 bel lt1) trodAll_mk0)), rfl, bel.frame _, fun h => by cases h⟩
noncomputable def laidWorld (os : Os) : World := { World.holding Tryd.prog os ⟨#[], #[], []⟩ with heap := (((World.holding Tryd.prog os ⟨#[], #[], []⟩).heap.modify 4 fun | .cells _ t frozen => .cells (aluCells).toArray t frozen | o => o).modify 0 fun | .cells _ t frozen => .cells (blockCells).toArray t frozen | o => o) }
theorem laid_met (os : Os) : laidMet Tryd.prog Rows.exprTellsRow.laid ((laidWorld os).forCall (fun _ _ => 0) ⟨#[], #[.agg #[.int .i64 0, .int .i64 0, .int .i64 0, .int .i64 0, .slice none 0 0], .agg #[.int .i64 0, .int .i64 0, .int .i64 0, .int .i64 0, .slice none 0 0]], []⟩).memory :=
  laidMet_of_run' 9 (by kernel_rfl) (by kernel_rfl)
theorem reads (os : Os) {H : Type} (enc : TypeId × Value → H) : ∃ ds places, DataW.whole enc Tryd.prog ((laidWorld os).forCall (fun _ _ => 0) ⟨#[], #[.agg #[.int .i64 0, .int .i64 0, .int .i64 0, .int .i64 0, .slice none 0 0], .agg #[.int .i64 0, .int .i64 0, .int .i64 0, .int .i64 0, .slice none 0 0]], []⟩).memory Tryd.f11.params.toList Rows.exprTellsSpec.vars false (#[.agg #[.int .i64 0, .int .i64 0, .int .i64 0, .int .i64 0, .slice none 0 0], .agg #[.int .i64 0, .int .i64 0, .int .i64 0, .int .i64 0, .slice none 0 0]] : Array Value).toList 9 = some (ds, [], places) :=
  ⟨[.agg [.lit (.int .i64 0), .lit (.int .i64 0), .lit (.int .i64 0), .lit (.int .i64 0), .nil], .agg [.lit (.int .i64 0), .lit (.int .i64 0), .lit (.int .i64 0), .lit (.int .i64 0), .nil]], [], by kernel_rfl⟩
set_option maxRecDepth 100000 in
theorem lifted (os : Os) (started : os.Started) (H : Type) (enc : TypeId × Value → H) (F : Stop.Interp) :
    ReturnsInHanded {} Tryd.checked os 11 .any ((OpenSpec.ofChange Rows.exprTellsSpec).preRow enc Tryd.prog Tryd.f11 Rows.exprTellsRow.domain false Rows.exprTellsRow.laid) (((OpenSpec.ofChange Rows.exprTellsSpec).at F).post enc Tryd.prog Tryd.f11 false true false false) := by
  obtain ⟨ds0, places, hx⟩ := reads os enc
  refine returnsInHanded_of_row (C := Tryd.checked) (s := OpenSpec.ofChange Rows.exprTellsSpec) own started (by kernel_rfl) Tryd.func11
    (witness_row_at (enc := enc) (C := Tryd.checked) false (laidWorld os) #[.agg #[.int .i64 0, .int .i64 0, .int .i64 0, .int .i64 0, .slice none 0 0], .agg #[.int .i64 0, .int .i64 0, .int .i64 0, .int .i64 0, .slice none 0 0]] rfl (by kernel_rfl) (by kernel_rfl) (by kernel_rfl)
      (OpenSpec.preRow_of_cond 9 hx (by first | kernel_rfl | rfl) (fun k hk => by cases hk) (by first | kernel_rfl | rfl) (laid_met os))) ?_
  intro W base args ds gs before hval hW _ _ hsz hL _ _
  exact contract H enc W base args ds gs before hval hW hsz hL
theorem said : Rows.ExprTellsSaid :=
  OpenClaim.holds_of_cond 11 Tryd.f11 rfl rfl rfl rfl rfl rfl rfl ⟨rfl, rfl, rfl, rfl, rfl⟩ rfl rfl rfl rfl rfl (by kernel_rfl) Tryd.func11 (by kernel_rfl)
    (of_decide_eq_true (by kernel_rfl)) (by unfold Func.isWrapper; first | (rw [if_pos (by decide +kernel)]; kernel_rfl) | (rw [if_neg (by decide +kernel)]; exact ⟨rfl, rfl⟩))
    (fun os started H enc _ F => by rw [OpenClaim.pre_eq_preRow]; exact lifted os started H enc F)
theorem plain (f : FuncId) (fn : Func) (hf : Tryd.pinned.checked.prog.funcNamed "ladderback/ladderbacklaw26.ExprTells" = some f) (hfn : Tryd.pinned.checked.prog.funcs[f]? = some fn) :
    false = Tryd.pinned.checked.prog.looks [] ∧ ∀ (j : Nat) t, fn.params[j]? = some t → Tryd.pinned.checked.prog.wantsStandIn t = false := by
  obtain rfl : f = 11 := Option.some.inj ((show Tryd.prog.funcNamed "ladderback/ladderbacklaw26.ExprTells" = some 11 by kernel_rfl).symm.trans hf) |>.symm
  obtain rfl : fn = Tryd.f11 := (Option.some.inj (Tryd.func11.symm.trans hfn)).symm
  refine ⟨by kernel_rfl, fun j t ht => ?_⟩
  rw [Tryd.params11] at ht
  have hm : t ∈ [55, 55] := by simpa using Array.mem_of_getElem? ht
  have hall : ([55, 55].all fun u => !Tryd.prog.wantsStandIn u) = true := by kernel_rfl
  exact (show Tryd.prog.wantsStandIn t = false by simpa using List.all_eq_true.1 hall t hm)
end Go.Proofs.YticmkjkngngdhaaDoor.RExprTells
namespace Go.Proofs.YticmkjkngngdhaaDoor
theorem exprTells_holds : Rows.ExprTellsCardSaid :=
  Claim7.holds_tied_plain_at .later [] _ _ _ _ RExprTells.said (fun _ h => by cases h) (by kernel_rfl) (fun _ h => by cases h) exprTells_row_tie rfl ⟨rfl, rfl⟩ (by kernel_rfl) rfl RExprTells.plain (by kernel_rfl)
#print axioms exprTells_holds
end Go.Proofs.YticmkjkngngdhaaDoor
