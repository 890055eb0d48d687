/- A store of a whole instance into a box, at once. No condition. -/
import Derived.Test.YthldpihpjekleaaDoorBase
import Derived.Test.YthldpihpjekleaaDoorWWords
import Derived.Test.YthldpihpjekleaaDoorWLast
namespace Go.Proofs.YthldpihpjekleaaDoor
open Go.RowKit Go.Proofs.YthldpihpjekleaaDoorW.PrintWords Go.Proofs.YthldpihpjekleaaDoorW.PrintLast
set_option linter.unusedSimpArgs false
set_option linter.unusedVariables false
set_option maxRecDepth 100000 in
set_option maxHeartbeats 4000000 in
theorem store10_ {a : Act} {oi : Oper} {w : World} {g t p q : Nat} {z0 z1 z2 z3 z4 z5 z6 z7 z8 z9 : Value} {v0 v1 v2 v3 v4 v5 v6 v7 v8 v9 : Int} (hop : oi.op = Op.store 24 (.tmp p) (.tmp q)) (hp : a.eval (.tmp p) = .pointer (some ⟨g, 0, none⟩)) (hq : a.eval (.tmp q) = .agg #[.int .i64 v0, .int .i64 v1, .int .i64 v2, .int .i64 v3, .int .i64 v4, .int .i64 v5, .int .i64 v6, .int .i64 v7, .int .i64 v8, .int .i64 v9])
    (h : w.heap[g]? = some (.cells #[z0, z1, z2, z3, z4, z5, z6, z7, z8, z9] t (0, 0))) :
    (execOp a.eval oi).run Tryd.prog w = .ok .skip ((((((((((w.setCell ⟨g, 0, none⟩ (.int .i64 v0)).setCell ⟨g, 1, none⟩ (.int .i64 v1)).setCell ⟨g, 2, none⟩ (.int .i64 v2)).setCell ⟨g, 3, none⟩ (.int .i64 v3)).setCell ⟨g, 4, none⟩ (.int .i64 v4)).setCell ⟨g, 5, none⟩ (.int .i64 v5)).setCell ⟨g, 6, none⟩ (.int .i64 v6)).setCell ⟨g, 7, none⟩ (.int .i64 v7)).setCell ⟨g, 8, none⟩ (.int .i64 v8)).setCell ⟨g, 9, none⟩ (.int .i64 v9)) := by
  have c0 : w.cell? ⟨g, 0, none⟩ = some z0 := (blk_cell h 0).trans rfl
  have c1 : w.cell? ⟨g, 1, none⟩ = some z1 := (blk_cell h 1).trans rfl
  have c2 : w.cell? ⟨g, 2, none⟩ = some z2 := (blk_cell h 2).trans rfl
  have c3 : w.cell? ⟨g, 3, none⟩ = some z3 := (blk_cell h 3).trans rfl
  have c4 : w.cell? ⟨g, 4, none⟩ = some z4 := (blk_cell h 4).trans rfl
  have c5 : w.cell? ⟨g, 5, none⟩ = some z5 := (blk_cell h 5).trans rfl
  have c6 : w.cell? ⟨g, 6, none⟩ = some z6 := (blk_cell h 6).trans rfl
  have c7 : w.cell? ⟨g, 7, none⟩ = some z7 := (blk_cell h 7).trans rfl
  have c8 : w.cell? ⟨g, 8, none⟩ = some z8 := (blk_cell h 8).trans rfl
  have c9 : w.cell? ⟨g, 9, none⟩ = some z9 := (blk_cell h 9).trans rfl
  have f0 := blk_frozen h 0
  have f1 := blk_frozen h 1
  have f2 := blk_frozen h 2
  have f3 := blk_frozen h 3
  have f4 := blk_frozen h 4
  have f5 := blk_frozen h 5
  have f6 := blk_frozen h 6
  have f7 := blk_frozen h 7
  have f8 := blk_frozen h 8
  have f9 := blk_frozen h 9
  have hu := Tryd.underlying24
  clear h
  simp only [execOp, hop, hp, hq]
  go_simp
end Go.Proofs.YthldpihpjekleaaDoor
