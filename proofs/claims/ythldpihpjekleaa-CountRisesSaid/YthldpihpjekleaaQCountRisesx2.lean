-- Printed by a program of this session's over the kit's printer (wip/patch_print.py).
import Derived.Test.YthldpihpjekleaaStore10
import Derived.Test.YthldpihpjekleaaQCountRisesx0
import Derived.Test.YthldpihpjekleaaQCountRisesx1
namespace Go.Proofs.Ythldpihpjekleaa.QCountRises
open Go.RowKit Go.Proofs.Ythldpihpjekleaa Go.Proofs.YthldpihpjekleaaW.PrintWords Go.Proofs.YthldpihpjekleaaW.PrintLast Go.Proofs.YthldpihpjekleaaW.PrintMore
attribute [local go_sem] setCell_drewN0 max2_int min2_int max_two min_two max_three min_three max_four min_four   -- for this text's walks alone
set_option linter.unusedVariables false
set_option linter.unusedSimpArgs false

/-! ### ladderbacklaw09_CountRises: function 3 -/
mutual
def ladderbacklaw09_CountRises.l0 : Nat → List (S27) → Int → Int → Int → Int → Int → Int → Int → Int → Int → Int → Int → Int → Int → Int → Int → Int → Int → Int → Int → Int → Int → Int → Int → Int → Int → Int → Int → Int → Int → Int → Int → Int → Int → Int → Bool → Bool → Option (Bool)
 | 0, _, _, _, _, _, _, _, _, _, _, _, _, _, _, _, _, _, _, _, _, _, _, _, _, _, _, _, _, _, _, _, _, _, _, _, _, _ => none
 | k + 1, x0, x7, x8, x9, x10, x115000, x115001, x115002, x115003, x115004, x115005, x115006, x115007, x115008, x115009, x116000, x116001, x116002, x116003, x116004, x116005, x116006, x116007, x116008, x116009, x117000, x117001, x117002, x117003, x117004, x117005, x117006, x117007, x117008, x117009, x118000, x118001 => if x10 < (x0.length : Int) then (if 0 ≤ x10 then (if (rd_T27 x0 x10).f0 = true then (if (rd_T27 x0 x10).f1 = true then (ladderbacklaw09_CountRises.j1 k x0 x7 x8 x9 x10 (!x118000) (!x118001) x115000 x115001 x115002 x115003 x115004 x115005 x115006 x115007 x115008 x115009 x116000 x116001 x116002 x116003 x116004 x116005 x116006 x116007 x116008 x116009 x117000 x117001 x117002 x117003 x117004 x117005 x117006 x117007 x117008 x117009) else (ladderbacklaw09_CountRises.j1 k x0 x7 x8 x9 x10 (!x118000) false x115000 x115001 x115002 x115003 x115004 x115005 x115006 x115007 x115008 x115009 x116000 x116001 x116002 x116003 x116004 x116005 x116006 x116007 x116008 x116009 x117000 x117001 x117002 x117003 x117004 x117005 x117006 x117007 x117008 x117009)) else (if (rd_T27 x0 x10).f1 = true then (ladderbacklaw09_CountRises.j1 k x0 x7 x8 x9 x10 false (!x118001) x115000 x115001 x115002 x115003 x115004 x115005 x115006 x115007 x115008 x115009 x116000 x116001 x116002 x116003 x116004 x116005 x116006 x116007 x116008 x116009 x117000 x117001 x117002 x117003 x117004 x117005 x117006 x117007 x117008 x117009) else (ladderbacklaw09_CountRises.j1 k x0 x7 x8 x9 x10 false false x115000 x115001 x115002 x115003 x115004 x115005 x115006 x115007 x115008 x115009 x116000 x116001 x116002 x116003 x116004 x116005 x116006 x116007 x116008 x116009 x117000 x117001 x117002 x117003 x117004 x117005 x117006 x117007 x117008 x117009))) else (none)) else ((ladderbacklaw09_awake.f).bind fun t118 => (some t118))
def ladderbacklaw09_CountRises.j1 : Nat → List (S27) → Int → Int → Int → Int → Bool → Bool → Int → Int → Int → Int → Int → Int → Int → Int → Int → Int → Int → Int → Int → Int → Int → Int → Int → Int → Int → Int → Int → Int → Int → Int → Int → Int → Int → Int → Int → Int → Option (Bool)
 | 0, _, _, _, _, _, _, _, _, _, _, _, _, _, _, _, _, _, _, _, _, _, _, _, _, _, _, _, _, _, _, _, _, _, _, _, _, _ => none
 | k + 1, x0, x7, x8, x9, x10, x11, x12, x115000, x115001, x115002, x115003, x115004, x115005, x115006, x115007, x115008, x115009, x116000, x116001, x116002, x116003, x116004, x116005, x116006, x116007, x116008, x116009, x117000, x117001, x117002, x117003, x117004, x117005, x117006, x117007, x117008, x117009 => if 0 ≤ x10 then (if x10 < (x0.length : Int) then (if (rd_T27 x0 x10).f0 = true then (ladderbacklaw09_CountRises.j2 k x0 x7 x8 x9 x10 x11 x12 1 x115001 x115002 x115003 x115004 x115005 x115006 x115007 x115008 x115009 0 x116001 x116002 x116003 x116004 x116005 x116006 x116007 x116008 x116009 1 0 x117002 x117003 x117004 x117005 x117006 x117007 x117008 x117009 ((rd_T27 x0 x10).f0) ((rd_T27 x0 x10).f1)) else (ladderbacklaw09_CountRises.j2 k x0 x7 x8 x9 x10 x11 x12 0 x115001 x115002 x115003 x115004 x115005 x115006 x115007 x115008 x115009 0 x116001 x116002 x116003 x116004 x116005 x116006 x116007 x116008 x116009 0 0 x117002 x117003 x117004 x117005 x117006 x117007 x117008 x117009 ((rd_T27 x0 x10).f0) ((rd_T27 x0 x10).f1))) else (none)) else (none)
def ladderbacklaw09_CountRises.j2 : Nat → List (S27) → Int → Int → Int → Int → Bool → Bool → Int → Int → Int → Int → Int → Int → Int → Int → Int → Int → Int → Int → Int → Int → Int → Int → Int → Int → Int → Int → Int → Int → Int → Int → Int → Int → Int → Int → Int → Int → Bool → Bool → Option (Bool)
 | 0, _, _, _, _, _, _, _, _, _, _, _, _, _, _, _, _, _, _, _, _, _, _, _, _, _, _, _, _, _, _, _, _, _, _, _, _, _, _, _ => none
 | k + 1, x0, x7, x8, x9, x10, x11, x12, x115000, x115001, x115002, x115003, x115004, x115005, x115006, x115007, x115008, x115009, x116000, x116001, x116002, x116003, x116004, x116005, x116006, x116007, x116008, x116009, x117000, x117001, x117002, x117003, x117004, x117005, x117006, x117007, x117008, x117009, x118000, x118001 => if 0 ≤ x10 then (if x10 < (x0.length : Int) then (if (rd_T27 x0 x10).f1 = true then (ladderbacklaw09_CountRises.j3 k x0 x7 x8 x9 x10 x11 x12 x115000 x115001 x115002 x115003 x115004 x115005 x115006 x115007 x115008 x115009 1 x116001 x116002 x116003 x116004 x116005 x116006 x116007 x116008 x116009 x117000 1 x117002 x117003 x117004 x117005 x117006 x117007 x117008 x117009 x118000 x118001) else (ladderbacklaw09_CountRises.j3 k x0 x7 x8 x9 x10 x11 x12 x115000 x115001 x115002 x115003 x115004 x115005 x115006 x115007 x115008 x115009 x116000 x116001 x116002 x116003 x116004 x116005 x116006 x116007 x116008 x116009 x117000 x117001 x117002 x117003 x117004 x117005 x117006 x117007 x117008 x117009 x118000 x118001)) else (none)) else (none)
def ladderbacklaw09_CountRises.j3 : Nat → List (S27) → Int → Int → Int → Int → Bool → Bool → Int → Int → Int → Int → Int → Int → Int → Int → Int → Int → Int → Int → Int → Int → Int → Int → Int → Int → Int → Int → Int → Int → Int → Int → Int → Int → Int → Int → Int → Int → Bool → Bool → Option (Bool)
 | 0, _, _, _, _, _, _, _, _, _, _, _, _, _, _, _, _, _, _, _, _, _, _, _, _, _, _, _, _, _, _, _, _, _, _, _, _, _, _, _ => none
 | k + 1, x0, x7, x8, x9, x10, x11, x12, x115000, x115001, x115002, x115003, x115004, x115005, x115006, x115007, x115008, x115009, x116000, x116001, x116002, x116003, x116004, x116005, x116006, x116007, x116008, x116009, x117000, x117001, x117002, x117003, x117004, x117005, x117006, x117007, x117008, x117009, x118000, x118001 => (count_Step.f 4 x115000 x115001 x115002 x115003 x115004 x115005 x115006 x115007 x115008 x115009).bind fun bt125 => ((count_Step.f 5 x116000 x116001 x116002 x116003 x116004 x116005 x116006 x116007 x116008 x116009).bind fun bt135 => ((count_Step.f 6 x117000 x117001 x117002 x117003 x117004 x117005 x117006 x117007 x117008 x117009).bind fun bt145 => (if x11 = true then (ladderbacklaw09_CountRises.j4 k x0 (wrap64 (x7 + 1)) x8 x9 x10 x11 x12 bt125.1 bt125.2.1 bt125.2.2.1 bt125.2.2.2.1 bt125.2.2.2.2.1 bt125.2.2.2.2.2.1 bt125.2.2.2.2.2.2.1 bt125.2.2.2.2.2.2.2.1 bt125.2.2.2.2.2.2.2.2.1 bt125.2.2.2.2.2.2.2.2.2 bt135.1 bt135.2.1 bt135.2.2.1 bt135.2.2.2.1 bt135.2.2.2.2.1 bt135.2.2.2.2.2.1 bt135.2.2.2.2.2.2.1 bt135.2.2.2.2.2.2.2.1 bt135.2.2.2.2.2.2.2.2.1 bt135.2.2.2.2.2.2.2.2.2 bt145.1 bt145.2.1 bt145.2.2.1 bt145.2.2.2.1 bt145.2.2.2.2.1 bt145.2.2.2.2.2.1 bt145.2.2.2.2.2.2.1 bt145.2.2.2.2.2.2.2.1 bt145.2.2.2.2.2.2.2.2.1 bt145.2.2.2.2.2.2.2.2.2 x118000 x118001) else (ladderbacklaw09_CountRises.j4 k x0 x7 x8 x9 x10 x11 x12 bt125.1 bt125.2.1 bt125.2.2.1 bt125.2.2.2.1 bt125.2.2.2.2.1 bt125.2.2.2.2.2.1 bt125.2.2.2.2.2.2.1 bt125.2.2.2.2.2.2.2.1 bt125.2.2.2.2.2.2.2.2.1 bt125.2.2.2.2.2.2.2.2.2 bt135.1 bt135.2.1 bt135.2.2.1 bt135.2.2.2.1 bt135.2.2.2.2.1 bt135.2.2.2.2.2.1 bt135.2.2.2.2.2.2.1 bt135.2.2.2.2.2.2.2.1 bt135.2.2.2.2.2.2.2.2.1 bt135.2.2.2.2.2.2.2.2.2 bt145.1 bt145.2.1 bt145.2.2.1 bt145.2.2.2.1 bt145.2.2.2.2.1 bt145.2.2.2.2.2.1 bt145.2.2.2.2.2.2.1 bt145.2.2.2.2.2.2.2.1 bt145.2.2.2.2.2.2.2.2.1 bt145.2.2.2.2.2.2.2.2.2 x118000 x118001))))
def ladderbacklaw09_CountRises.j4 : Nat → List (S27) → Int → Int → Int → Int → Bool → Bool → Int → Int → Int → Int → Int → Int → Int → Int → Int → Int → Int → Int → Int → Int → Int → Int → Int → Int → Int → Int → Int → Int → Int → Int → Int → Int → Int → Int → Int → Int → Bool → Bool → Option (Bool)
 | 0, _, _, _, _, _, _, _, _, _, _, _, _, _, _, _, _, _, _, _, _, _, _, _, _, _, _, _, _, _, _, _, _, _, _, _, _, _, _, _ => none
 | k + 1, x0, x7, x8, x9, x10, x11, x12, x115000, x115001, x115002, x115003, x115004, x115005, x115006, x115007, x115008, x115009, x116000, x116001, x116002, x116003, x116004, x116005, x116006, x116007, x116008, x116009, x117000, x117001, x117002, x117003, x117004, x117005, x117006, x117007, x117008, x117009, x118000, x118001 => if x12 = true then (ladderbacklaw09_CountRises.j5 k x0 x7 (wrap64 (x8 + 1)) x9 x10 x11 x12 x115000 x115001 x115002 x115003 x115004 x115005 x115006 x115007 x115008 x115009 x116000 x116001 x116002 x116003 x116004 x116005 x116006 x116007 x116008 x116009 x117000 x117001 x117002 x117003 x117004 x117005 x117006 x117007 x117008 x117009 x118000 x118001) else (ladderbacklaw09_CountRises.j5 k x0 x7 x8 x9 x10 x11 x12 x115000 x115001 x115002 x115003 x115004 x115005 x115006 x115007 x115008 x115009 x116000 x116001 x116002 x116003 x116004 x116005 x116006 x116007 x116008 x116009 x117000 x117001 x117002 x117003 x117004 x117005 x117006 x117007 x117008 x117009 x118000 x118001)
def ladderbacklaw09_CountRises.j5 : Nat → List (S27) → Int → Int → Int → Int → Bool → Bool → Int → Int → Int → Int → Int → Int → Int → Int → Int → Int → Int → Int → Int → Int → Int → Int → Int → Int → Int → Int → Int → Int → Int → Int → Int → Int → Int → Int → Int → Int → Bool → Bool → Option (Bool)
 | 0, _, _, _, _, _, _, _, _, _, _, _, _, _, _, _, _, _, _, _, _, _, _, _, _, _, _, _, _, _, _, _, _, _, _, _, _, _, _, _ => none
 | k + 1, x0, x7, x8, x9, x10, x11, x12, x115000, x115001, x115002, x115003, x115004, x115005, x115006, x115007, x115008, x115009, x116000, x116001, x116002, x116003, x116004, x116005, x116006, x116007, x116008, x116009, x117000, x117001, x117002, x117003, x117004, x117005, x117006, x117007, x117008, x117009, x118000, x118001 => if x11 = true then (ladderbacklaw09_CountRises.j6 k x0 x7 x8 x9 x10 x11 x12 (!x12) x115000 x115001 x115002 x115003 x115004 x115005 x115006 x115007 x115008 x115009 x116000 x116001 x116002 x116003 x116004 x116005 x116006 x116007 x116008 x116009 x117000 x117001 x117002 x117003 x117004 x117005 x117006 x117007 x117008 x117009 x118000 x118001) else (ladderbacklaw09_CountRises.j6 k x0 x7 x8 x9 x10 x11 x12 false x115000 x115001 x115002 x115003 x115004 x115005 x115006 x115007 x115008 x115009 x116000 x116001 x116002 x116003 x116004 x116005 x116006 x116007 x116008 x116009 x117000 x117001 x117002 x117003 x117004 x117005 x117006 x117007 x117008 x117009 x118000 x118001)
def ladderbacklaw09_CountRises.j6 : Nat → List (S27) → Int → Int → Int → Int → Bool → Bool → Bool → Int → Int → Int → Int → Int → Int → Int → Int → Int → Int → Int → Int → Int → Int → Int → Int → Int → Int → Int → Int → Int → Int → Int → Int → Int → Int → Int → Int → Int → Int → Bool → Bool → Option (Bool)
 | 0, _, _, _, _, _, _, _, _, _, _, _, _, _, _, _, _, _, _, _, _, _, _, _, _, _, _, _, _, _, _, _, _, _, _, _, _, _, _, _, _ => none
 | k + 1, x0, x7, x8, x9, x10, x11, x12, x89, x115000, x115001, x115002, x115003, x115004, x115005, x115006, x115007, x115008, x115009, x116000, x116001, x116002, x116003, x116004, x116005, x116006, x116007, x116008, x116009, x117000, x117001, x117002, x117003, x117004, x117005, x117006, x117007, x117008, x117009, x118000, x118001 => if x89 = true then (ladderbacklaw09_CountRises.j7 k x0 x7 x8 (wrap64 (x9 + 1)) x10 x11 x12 x115000 x115001 x115002 x115003 x115004 x115005 x115006 x115007 x115008 x115009 x116000 x116001 x116002 x116003 x116004 x116005 x116006 x116007 x116008 x116009 x117000 x117001 x117002 x117003 x117004 x117005 x117006 x117007 x117008 x117009 x118000 x118001) else (ladderbacklaw09_CountRises.j7 k x0 x7 x8 x9 x10 x11 x12 x115000 x115001 x115002 x115003 x115004 x115005 x115006 x115007 x115008 x115009 x116000 x116001 x116002 x116003 x116004 x116005 x116006 x116007 x116008 x116009 x117000 x117001 x117002 x117003 x117004 x117005 x117006 x117007 x117008 x117009 x118000 x118001)
def ladderbacklaw09_CountRises.j7 : Nat → List (S27) → Int → Int → Int → Int → Bool → Bool → Int → Int → Int → Int → Int → Int → Int → Int → Int → Int → Int → Int → Int → Int → Int → Int → Int → Int → Int → Int → Int → Int → Int → Int → Int → Int → Int → Int → Int → Int → Bool → Bool → Option (Bool)
 | 0, _, _, _, _, _, _, _, _, _, _, _, _, _, _, _, _, _, _, _, _, _, _, _, _, _, _, _, _, _, _, _, _, _, _, _, _, _, _, _ => none
 | k + 1, x0, x7, x8, x9, x10, x11, x12, x115000, x115001, x115002, x115003, x115004, x115005, x115006, x115007, x115008, x115009, x116000, x116001, x116002, x116003, x116004, x116005, x116006, x116007, x116008, x116009, x117000, x117001, x117002, x117003, x117004, x117005, x117006, x117007, x117008, x117009, x118000, x118001 => if x12 = true then (ladderbacklaw09_CountRises.j8 k x0 x7 x8 x9 x10 (!x11) x115000 x115001 x115002 x115003 x115004 x115005 x115006 x115007 x115008 x115009 x116000 x116001 x116002 x116003 x116004 x116005 x116006 x116007 x116008 x116009 x117000 x117001 x117002 x117003 x117004 x117005 x117006 x117007 x117008 x117009 x118000 x118001) else (ladderbacklaw09_CountRises.j8 k x0 x7 x8 x9 x10 false x115000 x115001 x115002 x115003 x115004 x115005 x115006 x115007 x115008 x115009 x116000 x116001 x116002 x116003 x116004 x116005 x116006 x116007 x116008 x116009 x117000 x117001 x117002 x117003 x117004 x117005 x117006 x117007 x117008 x117009 x118000 x118001)
def ladderbacklaw09_CountRises.j8 : Nat → List (S27) → Int → Int → Int → Int → Bool → Int → Int → Int → Int → Int → Int → Int → Int → Int → Int → Int → Int → Int → Int → Int → Int → Int → Int → Int → Int → Int → Int → Int → Int → Int → Int → Int → Int → Int → Int → Bool → Bool → Option (Bool)
 | 0, _, _, _, _, _, _, _, _, _, _, _, _, _, _, _, _, _, _, _, _, _, _, _, _, _, _, _, _, _, _, _, _, _, _, _, _, _, _ => none
 | k + 1, x0, x7, x8, x9, x10, x96, x115000, x115001, x115002, x115003, x115004, x115005, x115006, x115007, x115008, x115009, x116000, x116001, x116002, x116003, x116004, x116005, x116006, x116007, x116008, x116009, x117000, x117001, x117002, x117003, x117004, x117005, x117006, x117007, x117008, x117009, x118000, x118001 => if x96 = true then (if x115004 = x7 then (if x116004 = (wrap64 (-x8)) then (if x117007 = (wrap64 (x9 - 1)) then (ladderbacklaw09_CountRises.l0 k x0 x7 x8 (wrap64 (x9 - 1)) (wrap64 (x10 + 1)) x115000 x115001 x115002 x115003 x115004 x115005 x115006 x115007 x115008 x115009 x116000 x116001 x116002 x116003 x116004 x116005 x116006 x116007 x116008 x116009 x117000 x117001 x117002 x117003 x117004 x117005 x117006 x117007 x117008 x117009 x118000 x118001) else (some false)) else (some false)) else (some false)) else (if x115004 = x7 then (if x116004 = (wrap64 (-x8)) then (if x117007 = x9 then (ladderbacklaw09_CountRises.l0 k x0 x7 x8 x9 (wrap64 (x10 + 1)) x115000 x115001 x115002 x115003 x115004 x115005 x115006 x115007 x115008 x115009 x116000 x116001 x116002 x116003 x116004 x116005 x116006 x116007 x116008 x116009 x117000 x117001 x117002 x117003 x117004 x117005 x117006 x117007 x117008 x117009 x118000 x118001) else (some false)) else (some false)) else (some false))
end
def ladderbacklaw09_CountRises.f (k : Nat) (l0 : List (S27)) : Option (Bool) := if (l0.length : Int) > 100 then ((ladderbacklaw09_awake.f).bind fun t113 => (some t113)) else (ladderbacklaw09_CountRises.l0 k l0 0 0 0 0 0 0 0 0 0 0 0 0 0 0 0 0 0 0 0 0 0 0 0 0 0 0 0 0 0 0 0 0 0 0 false false)
theorem ladderbacklaw09_CountRises.mono_l : ∀ k, (∀ y0 y1 y2 y3 y4 y5 y6 y7 y8 y9 y10 y11 y12 y13 y14 y15 y16 y17 y18 y19 y20 y21 y22 y23 y24 y25 y26 y27 y28 y29 y30 y31 y32 y33 y34 y35 y36, LeO (ladderbacklaw09_CountRises.l0 k y0 y1 y2 y3 y4 y5 y6 y7 y8 y9 y10 y11 y12 y13 y14 y15 y16 y17 y18 y19 y20 y21 y22 y23 y24 y25 y26 y27 y28 y29 y30 y31 y32 y33 y34 y35 y36) (ladderbacklaw09_CountRises.l0 (k + 1) y0 y1 y2 y3 y4 y5 y6 y7 y8 y9 y10 y11 y12 y13 y14 y15 y16 y17 y18 y19 y20 y21 y22 y23 y24 y25 y26 y27 y28 y29 y30 y31 y32 y33 y34 y35 y36)) ∧ (∀ y0 y1 y2 y3 y4 y5 y6 y7 y8 y9 y10 y11 y12 y13 y14 y15 y16 y17 y18 y19 y20 y21 y22 y23 y24 y25 y26 y27 y28 y29 y30 y31 y32 y33 y34 y35 y36, LeO (ladderbacklaw09_CountRises.j1 k y0 y1 y2 y3 y4 y5 y6 y7 y8 y9 y10 y11 y12 y13 y14 y15 y16 y17 y18 y19 y20 y21 y22 y23 y24 y25 y26 y27 y28 y29 y30 y31 y32 y33 y34 y35 y36) (ladderbacklaw09_CountRises.j1 (k + 1) y0 y1 y2 y3 y4 y5 y6 y7 y8 y9 y10 y11 y12 y13 y14 y15 y16 y17 y18 y19 y20 y21 y22 y23 y24 y25 y26 y27 y28 y29 y30 y31 y32 y33 y34 y35 y36)) ∧ (∀ y0 y1 y2 y3 y4 y5 y6 y7 y8 y9 y10 y11 y12 y13 y14 y15 y16 y17 y18 y19 y20 y21 y22 y23 y24 y25 y26 y27 y28 y29 y30 y31 y32 y33 y34 y35 y36 y37 y38, LeO (ladderbacklaw09_CountRises.j2 k y0 y1 y2 y3 y4 y5 y6 y7 y8 y9 y10 y11 y12 y13 y14 y15 y16 y17 y18 y19 y20 y21 y22 y23 y24 y25 y26 y27 y28 y29 y30 y31 y32 y33 y34 y35 y36 y37 y38) (ladderbacklaw09_CountRises.j2 (k + 1) y0 y1 y2 y3 y4 y5 y6 y7 y8 y9 y10 y11 y12 y13 y14 y15 y16 y17 y18 y19 y20 y21 y22 y23 y24 y25 y26 y27 y28 y29 y30 y31 y32 y33 y34 y35 y36 y37 y38)) ∧ (∀ y0 y1 y2 y3 y4 y5 y6 y7 y8 y9 y10 y11 y12 y13 y14 y15 y16 y17 y18 y19 y20 y21 y22 y23 y24 y25 y26 y27 y28 y29 y30 y31 y32 y33 y34 y35 y36 y37 y38, LeO (ladderbacklaw09_CountRises.j3 k y0 y1 y2 y3 y4 y5 y6 y7 y8 y9 y10 y11 y12 y13 y14 y15 y16 y17 y18 y19 y20 y21 y22 y23 y24 y25 y26 y27 y28 y29 y30 y31 y32 y33 y34 y35 y36 y37 y38) (ladderbacklaw09_CountRises.j3 (k + 1) y0 y1 y2 y3 y4 y5 y6 y7 y8 y9 y10 y11 y12 y13 y14 y15 y16 y17 y18 y19 y20 y21 y22 y23 y24 y25 y26 y27 y28 y29 y30 y31 y32 y33 y34 y35 y36 y37 y38)) ∧ (∀ y0 y1 y2 y3 y4 y5 y6 y7 y8 y9 y10 y11 y12 y13 y14 y15 y16 y17 y18 y19 y20 y21 y22 y23 y24 y25 y26 y27 y28 y29 y30 y31 y32 y33 y34 y35 y36 y37 y38, LeO (ladderbacklaw09_CountRises.j4 k y0 y1 y2 y3 y4 y5 y6 y7 y8 y9 y10 y11 y12 y13 y14 y15 y16 y17 y18 y19 y20 y21 y22 y23 y24 y25 y26 y27 y28 y29 y30 y31 y32 y33 y34 y35 y36 y37 y38) (ladderbacklaw09_CountRises.j4 (k + 1) y0 y1 y2 y3 y4 y5 y6 y7 y8 y9 y10 y11 y12 y13 y14 y15 y16 y17 y18 y19 y20 y21 y22 y23 y24 y25 y26 y27 y28 y29 y30 y31 y32 y33 y34 y35 y36 y37 y38)) ∧ (∀ y0 y1 y2 y3 y4 y5 y6 y7 y8 y9 y10 y11 y12 y13 y14 y15 y16 y17 y18 y19 y20 y21 y22 y23 y24 y25 y26 y27 y28 y29 y30 y31 y32 y33 y34 y35 y36 y37 y38, LeO (ladderbacklaw09_CountRises.j5 k y0 y1 y2 y3 y4 y5 y6 y7 y8 y9 y10 y11 y12 y13 y14 y15 y16 y17 y18 y19 y20 y21 y22 y23 y24 y25 y26 y27 y28 y29 y30 y31 y32 y33 y34 y35 y36 y37 y38) (ladderbacklaw09_CountRises.j5 (k + 1) y0 y1 y2 y3 y4 y5 y6 y7 y8 y9 y10 y11 y12 y13 y14 y15 y16 y17 y18 y19 y20 y21 y22 y23 y24 y25 y26 y27 y28 y29 y30 y31 y32 y33 y34 y35 y36 y37 y38)) ∧ (∀ y0 y1 y2 y3 y4 y5 y6 y7 y8 y9 y10 y11 y12 y13 y14 y15 y16 y17 y18 y19 y20 y21 y22 y23 y24 y25 y26 y27 y28 y29 y30 y31 y32 y33 y34 y35 y36 y37 y38 y39, LeO (ladderbacklaw09_CountRises.j6 k y0 y1 y2 y3 y4 y5 y6 y7 y8 y9 y10 y11 y12 y13 y14 y15 y16 y17 y18 y19 y20 y21 y22 y23 y24 y25 y26 y27 y28 y29 y30 y31 y32 y33 y34 y35 y36 y37 y38 y39) (ladderbacklaw09_CountRises.j6 (k + 1) y0 y1 y2 y3 y4 y5 y6 y7 y8 y9 y10 y11 y12 y13 y14 y15 y16 y17 y18 y19 y20 y21 y22 y23 y24 y25 y26 y27 y28 y29 y30 y31 y32 y33 y34 y35 y36 y37 y38 y39)) ∧ (∀ y0 y1 y2 y3 y4 y5 y6 y7 y8 y9 y10 y11 y12 y13 y14 y15 y16 y17 y18 y19 y20 y21 y22 y23 y24 y25 y26 y27 y28 y29 y30 y31 y32 y33 y34 y35 y36 y37 y38, LeO (ladderbacklaw09_CountRises.j7 k y0 y1 y2 y3 y4 y5 y6 y7 y8 y9 y10 y11 y12 y13 y14 y15 y16 y17 y18 y19 y20 y21 y22 y23 y24 y25 y26 y27 y28 y29 y30 y31 y32 y33 y34 y35 y36 y37 y38) (ladderbacklaw09_CountRises.j7 (k + 1) y0 y1 y2 y3 y4 y5 y6 y7 y8 y9 y10 y11 y12 y13 y14 y15 y16 y17 y18 y19 y20 y21 y22 y23 y24 y25 y26 y27 y28 y29 y30 y31 y32 y33 y34 y35 y36 y37 y38)) ∧ (∀ y0 y1 y2 y3 y4 y5 y6 y7 y8 y9 y10 y11 y12 y13 y14 y15 y16 y17 y18 y19 y20 y21 y22 y23 y24 y25 y26 y27 y28 y29 y30 y31 y32 y33 y34 y35 y36 y37, LeO (ladderbacklaw09_CountRises.j8 k y0 y1 y2 y3 y4 y5 y6 y7 y8 y9 y10 y11 y12 y13 y14 y15 y16 y17 y18 y19 y20 y21 y22 y23 y24 y25 y26 y27 y28 y29 y30 y31 y32 y33 y34 y35 y36 y37) (ladderbacklaw09_CountRises.j8 (k + 1) y0 y1 y2 y3 y4 y5 y6 y7 y8 y9 y10 y11 y12 y13 y14 y15 y16 y17 y18 y19 y20 y21 y22 y23 y24 y25 y26 y27 y28 y29 y30 y31 y32 y33 y34 y35 y36 y37))
 | 0 => ⟨fun _ _ _ _ _ _ _ _ _ _ _ _ _ _ _ _ _ _ _ _ _ _ _ _ _ _ _ _ _ _ _ _ _ _ _ _ _ r h => by simp [ladderbacklaw09_CountRises.l0] at h, fun _ _ _ _ _ _ _ _ _ _ _ _ _ _ _ _ _ _ _ _ _ _ _ _ _ _ _ _ _ _ _ _ _ _ _ _ _ r h => by simp [ladderbacklaw09_CountRises.j1] at h, fun _ _ _ _ _ _ _ _ _ _ _ _ _ _ _ _ _ _ _ _ _ _ _ _ _ _ _ _ _ _ _ _ _ _ _ _ _ _ _ r h => by simp [ladderbacklaw09_CountRises.j2] at h, fun _ _ _ _ _ _ _ _ _ _ _ _ _ _ _ _ _ _ _ _ _ _ _ _ _ _ _ _ _ _ _ _ _ _ _ _ _ _ _ r h => by simp [ladderbacklaw09_CountRises.j3] at h, fun _ _ _ _ _ _ _ _ _ _ _ _ _ _ _ _ _ _ _ _ _ _ _ _ _ _ _ _ _ _ _ _ _ _ _ _ _ _ _ r h => by simp [ladderbacklaw09_CountRises.j4] at h, fun _ _ _ _ _ _ _ _ _ _ _ _ _ _ _ _ _ _ _ _ _ _ _ _ _ _ _ _ _ _ _ _ _ _ _ _ _ _ _ r h => by simp [ladderbacklaw09_CountRises.j5] at h, fun _ _ _ _ _ _ _ _ _ _ _ _ _ _ _ _ _ _ _ _ _ _ _ _ _ _ _ _ _ _ _ _ _ _ _ _ _ _ _ _ r h => by simp [ladderbacklaw09_CountRises.j6] at h, fun _ _ _ _ _ _ _ _ _ _ _ _ _ _ _ _ _ _ _ _ _ _ _ _ _ _ _ _ _ _ _ _ _ _ _ _ _ _ _ r h => by simp [ladderbacklaw09_CountRises.j7] at h, fun _ _ _ _ _ _ _ _ _ _ _ _ _ _ _ _ _ _ _ _ _ _ _ _ _ _ _ _ _ _ _ _ _ _ _ _ _ _ r h => by simp [ladderbacklaw09_CountRises.j8] at h⟩
 | k + 1 => by
  obtain ⟨ih0, ih1, ih2, ih3, ih4, ih5, ih6, ih7, ih8⟩ := ladderbacklaw09_CountRises.mono_l k
  refine ⟨?_, ?_, ?_, ?_, ?_, ?_, ?_, ?_, ?_⟩
  ·
   intro y0 y1 y2 y3 y4 y5 y6 y7 y8 y9 y10 y11 y12 y13 y14 y15 y16 y17 y18 y19 y20 y21 y22 y23 y24 y25 y26 y27 y28 y29 y30 y31 y32 y33 y34 y35 y36
   unfold ladderbacklaw09_CountRises.l0
   repeat' first
   | (with_reducible exact ih0 _ _ _ _ _ _ _ _ _ _ _ _ _ _ _ _ _ _ _ _ _ _ _ _ _ _ _ _ _ _ _ _ _ _ _ _ _)
   | (with_reducible exact ih1 _ _ _ _ _ _ _ _ _ _ _ _ _ _ _ _ _ _ _ _ _ _ _ _ _ _ _ _ _ _ _ _ _ _ _ _ _)
   | (with_reducible exact ih2 _ _ _ _ _ _ _ _ _ _ _ _ _ _ _ _ _ _ _ _ _ _ _ _ _ _ _ _ _ _ _ _ _ _ _ _ _ _ _)
   | (with_reducible exact ih3 _ _ _ _ _ _ _ _ _ _ _ _ _ _ _ _ _ _ _ _ _ _ _ _ _ _ _ _ _ _ _ _ _ _ _ _ _ _ _)
   | (with_reducible exact ih4 _ _ _ _ _ _ _ _ _ _ _ _ _ _ _ _ _ _ _ _ _ _ _ _ _ _ _ _ _ _ _ _ _ _ _ _ _ _ _)
   | (with_reducible exact ih5 _ _ _ _ _ _ _ _ _ _ _ _ _ _ _ _ _ _ _ _ _ _ _ _ _ _ _ _ _ _ _ _ _ _ _ _ _ _ _)
   | (with_reducible exact ih6 _ _ _ _ _ _ _ _ _ _ _ _ _ _ _ _ _ _ _ _ _ _ _ _ _ _ _ _ _ _ _ _ _ _ _ _ _ _ _ _)
   | (with_reducible exact ih7 _ _ _ _ _ _ _ _ _ _ _ _ _ _ _ _ _ _ _ _ _ _ _ _ _ _ _ _ _ _ _ _ _ _ _ _ _ _ _)
   | (with_reducible exact ih8 _ _ _ _ _ _ _ _ _ _ _ _ _ _ _ _ _ _ _ _ _ _ _ _ _ _ _ _ _ _ _ _ _ _ _ _ _ _)
   | (with_reducible exact LeO.refl _)
   | (with_reducible exact LeO.none _)
   | (with_reducible refine LeO.ite ?_ ?_)
   | (with_reducible refine LeO.bind ?_ (fun _ => ?_))
   | exact ih0 _ _ _ _ _ _ _ _ _ _ _ _ _ _ _ _ _ _ _ _ _ _ _ _ _ _ _ _ _ _ _ _ _ _ _ _ _
   | exact ih1 _ _ _ _ _ _ _ _ _ _ _ _ _ _ _ _ _ _ _ _ _ _ _ _ _ _ _ _ _ _ _ _ _ _ _ _ _
   | exact ih2 _ _ _ _ _ _ _ _ _ _ _ _ _ _ _ _ _ _ _ _ _ _ _ _ _ _ _ _ _ _ _ _ _ _ _ _ _ _ _
   | exact ih3 _ _ _ _ _ _ _ _ _ _ _ _ _ _ _ _ _ _ _ _ _ _ _ _ _ _ _ _ _ _ _ _ _ _ _ _ _ _ _
   | exact ih4 _ _ _ _ _ _ _ _ _ _ _ _ _ _ _ _ _ _ _ _ _ _ _ _ _ _ _ _ _ _ _ _ _ _ _ _ _ _ _
   | exact ih5 _ _ _ _ _ _ _ _ _ _ _ _ _ _ _ _ _ _ _ _ _ _ _ _ _ _ _ _ _ _ _ _ _ _ _ _ _ _ _
   | exact ih6 _ _ _ _ _ _ _ _ _ _ _ _ _ _ _ _ _ _ _ _ _ _ _ _ _ _ _ _ _ _ _ _ _ _ _ _ _ _ _ _
   | exact ih7 _ _ _ _ _ _ _ _ _ _ _ _ _ _ _ _ _ _ _ _ _ _ _ _ _ _ _ _ _ _ _ _ _ _ _ _ _ _ _
   | exact ih8 _ _ _ _ _ _ _ _ _ _ _ _ _ _ _ _ _ _ _ _ _ _ _ _ _ _ _ _ _ _ _ _ _ _ _ _ _ _
   | exact LeO.none _
   | refine LeO.ite ?_ ?_
   | refine LeO.bind ?_ (fun _ => ?_)
  ·
   intro y0 y1 y2 y3 y4 y5 y6 y7 y8 y9 y10 y11 y12 y13 y14 y15 y16 y17 y18 y19 y20 y21 y22 y23 y24 y25 y26 y27 y28 y29 y30 y31 y32 y33 y34 y35 y36
   unfold ladderbacklaw09_CountRises.j1
   repeat' first
   | (with_reducible exact ih0 _ _ _ _ _ _ _ _ _ _ _ _ _ _ _ _ _ _ _ _ _ _ _ _ _ _ _ _ _ _ _ _ _ _ _ _ _)
   | (with_reducible exact ih1 _ _ _ _ _ _ _ _ _ _ _ _ _ _ _ _ _ _ _ _ _ _ _ _ _ _ _ _ _ _ _ _ _ _ _ _ _)
   | (with_reducible exact ih2 _ _ _ _ _ _ _ _ _ _ _ _ _ _ _ _ _ _ _ _ _ _ _ _ _ _ _ _ _ _ _ _ _ _ _ _ _ _ _)
   | (with_reducible exact ih3 _ _ _ _ _ _ _ _ _ _ _ _ _ _ _ _ _ _ _ _ _ _ _ _ _ _ _ _ _ _ _ _ _ _ _ _ _ _ _)
   | (with_reducible exact ih4 _ _ _ _ _ _ _ _ _ _ _ _ _ _ _ _ _ _ _ _ _ _ _ _ _ _ _ _ _ _ _ _ _ _ _ _ _ _ _)
   | (with_reducible exact ih5 _ _ _ _ _ _ _ _ _ _ _ _ _ _ _ _ _ _ _ _ _ _ _ _ _ _ _ _ _ _ _ _ _ _ _ _ _ _ _)
   | (with_reducible exact ih6 _ _ _ _ _ _ _ _ _ _ _ _ _ _ _ _ _ _ _ _ _ _ _ _ _ _ _ _ _ _ _ _ _ _ _ _ _ _ _ _)
   | (with_reducible exact ih7 _ _ _ _ _ _ _ _ _ _ _ _ _ _ _ _ _ _ _ _ _ _ _ _ _ _ _ _ _ _ _ _ _ _ _ _ _ _ _)
   | (with_reducible exact ih8 _ _ _ _ _ _ _ _ _ _ _ _ _ _ _ _ _ _ _ _ _ _ _ _ _ _ _ _ _ _ _ _ _ _ _ _ _ _)
   | (with_reducible exact LeO.refl _)
   | (with_reducible exact LeO.none _)
   | (with_reducible refine LeO.ite ?_ ?_)
   | (with_reducible refine LeO.bind ?_ (fun _ => ?_))
   | exact ih0 _ _ _ _ _ _ _ _ _ _ _ _ _ _ _ _ _ _ _ _ _ _ _ _ _ _ _ _ _ _ _ _ _ _ _ _ _
   | exact ih1 _ _ _ _ _ _ _ _ _ _ _ _ _ _ _ _ _ _ _ _ _ _ _ _ _ _ _ _ _ _ _ _ _ _ _ _ _
   | exact ih2 _ _ _ _ _ _ _ _ _ _ _ _ _ _ _ _ _ _ _ _ _ _ _ _ _ _ _ _ _ _ _ _ _ _ _ _ _ _ _
   | exact ih3 _ _ _ _ _ _ _ _ _ _ _ _ _ _ _ _ _ _ _ _ _ _ _ _ _ _ _ _ _ _ _ _ _ _ _ _ _ _ _
   | exact ih4 _ _ _ _ _ _ _ _ _ _ _ _ _ _ _ _ _ _ _ _ _ _ _ _ _ _ _ _ _ _ _ _ _ _ _ _ _ _ _
   | exact ih5 _ _ _ _ _ _ _ _ _ _ _ _ _ _ _ _ _ _ _ _ _ _ _ _ _ _ _ _ _ _ _ _ _ _ _ _ _ _ _
   | exact ih6 _ _ _ _ _ _ _ _ _ _ _ _ _ _ _ _ _ _ _ _ _ _ _ _ _ _ _ _ _ _ _ _ _ _ _ _ _ _ _ _
   | exact ih7 _ _ _ _ _ _ _ _ _ _ _ _ _ _ _ _ _ _ _ _ _ _ _ _ _ _ _ _ _ _ _ _ _ _ _ _ _ _ _
   | exact ih8 _ _ _ _ _ _ _ _ _ _ _ _ _ _ _ _ _ _ _ _ _ _ _ _ _ _ _ _ _ _ _ _ _ _ _ _ _ _
   | exact LeO.none _
   | refine LeO.ite ?_ ?_
   | refine LeO.bind ?_ (fun _ => ?_)
  ·
   intro y0 y1 y2 y3 y4 y5 y6 y7 y8 y9 y10 y11 y12 y13 y14 y15 y16 y17 y18 y19 y20 y21 y22 y23 y24 y25 y26 y27 y28 y29 y30 y31 y32 y33 y34 y35 y36 y37 y38
   unfold ladderbacklaw09_CountRises.j2
   repeat' first
   | (with_reducible exact ih0 _ _ _ _ _ _ _ _ _ _ _ _ _ _ _ _ _ _ _ _ _ _ _ _ _ _ _ _ _ _ _ _ _ _ _ _ _)
   | (with_reducible exact ih1 _ _ _ _ _ _ _ _ _ _ _ _ _ _ _ _ _ _ _ _ _ _ _ _ _ _ _ _ _ _ _ _ _ _ _ _ _)
   | (with_reducible exact ih2 _ _ _ _ _ _ _ _ _ _ _ _ _ _ _ _ _ _ _ _ _ _ _ _ _ _ _ _ _ _ _ _ _ _ _ _ _ _ _)
   | (with_reducible exact ih3 _ _ _ _ _ _ _ _ _ _ _ _ _ _ _ _ _ _ _ _ _ _ _ _ _ _ _ _ _ _ _ _ _ _ _ _ _ _ _)
   | (with_reducible exact ih4 _ _ _ _ _ _ _ _ _ _ _ _ _ _ _ _ _ _ _ _ _ _ _ _ _ _ _ _ _ _ _ _ _ _ _ _ _ _ _)
   | (with_reducible exact ih5 _ _ _ _ _ _ _ _ _ _ _ _ _ _ _ _ _ _ _ _ _ _ _ _ _ _ _ _ _ _ _ _ _ _ _ _ _ _ _)
   | (with_reducible exact ih6 _ _ _ _ _ _ _ _ _ _ _ _ _ _ _ _ _ _ _ _ _ _ _ _ _ _ _ _ _ _ _ _ _ _ _ _ _ _ _ _)
   | (with_reducible exact ih7 _ _ _ _ _ _ _ _ _ _ _ _ _ _ _ _ _ _ _ _ _ _ _ _ _ _ _ _ _ _ _ _ _ _ _ _ _ _ _)
   | (with_reducible exact ih8 _ _ _ _ _ _ _ _ _ _ _ _ _ _ _ _ _ _ _ _ _ _ _ _ _ _ _ _ _ _ _ _ _ _ _ _ _ _)
   | (with_reducible exact LeO.refl _)
   | (with_reducible exact LeO.none _)
   | (with_reducible refine LeO.ite ?_ ?_)
   | (with_reducible refine LeO.bind ?_ (fun _ => ?_))
   | exact ih0 _ _ _ _ _ _ _ _ _ _ _ _ _ _ _ _ _ _ _ _ _ _ _ _ _ _ _ _ _ _ _ _ _ _ _ _ _
   | exact ih1 _ _ _ _ _ _ _ _ _ _ _ _ _ _ _ _ _ _ _ _ _ _ _ _ _ _ _ _ _ _ _ _ _ _ _ _ _
   | exact ih2 _ _ _ _ _ _ _ _ _ _ _ _ _ _ _ _ _ _ _ _ _ _ _ _ _ _ _ _ _ _ _ _ _ _ _ _ _ _ _
   | exact ih3 _ _ _ _ _ _ _ _ _ _ _ _ _ _ _ _ _ _ _ _ _ _ _ _ _ _ _ _ _ _ _ _ _ _ _ _ _ _ _
   | exact ih4 _ _ _ _ _ _ _ _ _ _ _ _ _ _ _ _ _ _ _ _ _ _ _ _ _ _ _ _ _ _ _ _ _ _ _ _ _ _ _
   | exact ih5 _ _ _ _ _ _ _ _ _ _ _ _ _ _ _ _ _ _ _ _ _ _ _ _ _ _ _ _ _ _ _ _ _ _ _ _ _ _ _
   | exact ih6 _ _ _ _ _ _ _ _ _ _ _ _ _ _ _ _ _ _ _ _ _ _ _ _ _ _ _ _ _ _ _ _ _ _ _ _ _ _ _ _
   | exact ih7 _ _ _ _ _ _ _ _ _ _ _ _ _ _ _ _ _ _ _ _ _ _ _ _ _ _ _ _ _ _ _ _ _ _ _ _ _ _ _
   | exact ih8 _ _ _ _ _ _ _ _ _ _ _ _ _ _ _ _ _ _ _ _ _ _ _ _ _ _ _ _ _ _ _ _ _ _ _ _ _ _
   | exact LeO.none _
   | refine LeO.ite ?_ ?_
   | refine LeO.bind ?_ (fun _ => ?_)
  ·
   intro y0 y1 y2 y3 y4 y5 y6 y7 y8 y9 y10 y11 y12 y13 y14 y15 y16 y17 y18 y19 y20 y21 y22 y23 y24 y25 y26 y27 y28 y29 y30 y31 y32 y33 y34 y35 y36 y37 y38
   unfold ladderbacklaw09_CountRises.j3
   repeat' first
   | (with_reducible exact ih0 _ _ _ _ _ _ _ _ _ _ _ _ _ _ _ _ _ _ _ _ _ _ _ _ _ _ _ _ _ _ _ _ _ _ _ _ _)
   | (with_reducible exact ih1 _ _ _ _ _ _ _ _ _ _ _ _ _ _ _ _ _ _ _ _ _ _ _ _ _ _ _ _ _ _ _ _ _ _ _ _ _)
   | (with_reducible exact ih2 _ _ _ _ _ _ _ _ _ _ _ _ _ _ _ _ _ _ _ _ _ _ _ _ _ _ _ _ _ _ _ _ _ _ _ _ _ _ _)
   | (with_reducible exact ih3 _ _ _ _ _ _ _ _ _ _ _ _ _ _ _ _ _ _ _ _ _ _ _ _ _ _ _ _ _ _ _ _ _ _ _ _ _ _ _)
   | (with_reducible exact ih4 _ _ _ _ _ _ _ _ _ _ _ _ _ _ _ _ _ _ _ _ _ _ _ _ _ _ _ _ _ _ _ _ _ _ _ _ _ _ _)
   | (with_reducible exact ih5 _ _ _ _ _ _ _ _ _ _ _ _ _ _ _ _ _ _ _ _ _ _ _ _ _ _ _ _ _ _ _ _ _ _ _ _ _ _ _)
   | (with_reducible exact ih6 _ _ _ _ _ _ _ _ _ _ _ _ _ _ _ _ _ _ _ _ _ _ _ _ _ _ _ _ _ _ _ _ _ _ _ _ _ _ _ _)
   | (with_reducible exact ih7 _ _ _ _ _ _ _ _ _ _ _ _ _ _ _ _ _ _ _ _ _ _ _ _ _ _ _ _ _ _ _ _ _ _ _ _ _ _ _)
   | (with_reducible exact ih8 _ _ _ _ _ _ _ _ _ _ _ _ _ _ _ _ _ _ _ _ _ _ _ _ _ _ _ _ _ _ _ _ _ _ _ _ _ _)
   | (with_reducible exact LeO.refl _)
   | (with_reducible exact LeO.none _)
   | (with_reducible refine LeO.ite ?_ ?_)
   | (with_reducible refine LeO.bind ?_ (fun _ => ?_))
   | exact ih0 _ _ _ _ _ _ _ _ _ _ _ _ _ _ _ _ _ _ _ _ _ _ _ _ _ _ _ _ _ _ _ _ _ _ _ _ _
   | exact ih1 _ _ _ _ _ _ _ _ _ _ _ _ _ _ _ _ _ _ _ _ _ _ _ _ _ _ _ _ _ _ _ _ _ _ _ _ _
   | exact ih2 _ _ _ _ _ _ _ _ _ _ _ _ _ _ _ _ _ _ _ _ _ _ _ _ _ _ _ _ _ _ _ _ _ _ _ _ _ _ _
   | exact ih3 _ _ _ _ _ _ _ _ _ _ _ _ _ _ _ _ _ _ _ _ _ _ _ _ _ _ _ _ _ _ _ _ _ _ _ _ _ _ _
   | exact ih4 _ _ _ _ _ _ _ _ _ _ _ _ _ _ _ _ _ _ _ _ _ _ _ _ _ _ _ _ _ _ _ _ _ _ _ _ _ _ _
   | exact ih5 _ _ _ _ _ _ _ _ _ _ _ _ _ _ _ _ _ _ _ _ _ _ _ _ _ _ _ _ _ _ _ _ _ _ _ _ _ _ _
   | exact ih6 _ _ _ _ _ _ _ _ _ _ _ _ _ _ _ _ _ _ _ _ _ _ _ _ _ _ _ _ _ _ _ _ _ _ _ _ _ _ _ _
   | exact ih7 _ _ _ _ _ _ _ _ _ _ _ _ _ _ _ _ _ _ _ _ _ _ _ _ _ _ _ _ _ _ _ _ _ _ _ _ _ _ _
   | exact ih8 _ _ _ _ _ _ _ _ _ _ _ _ _ _ _ _ _ _ _ _ _ _ _ _ _ _ _ _ _ _ _ _ _ _ _ _ _ _
   | exact LeO.none _
   | refine LeO.ite ?_ ?_
   | refine LeO.bind ?_ (fun _ => ?_)
  ·
   intro y0 y1 y2 y3 y4 y5 y6 y7 y8 y9 y10 y11 y12 y13 y14 y15 y16 y17 y18 y19 y20 y21 y22 y23 y24 y25 y26 y27 y28 y29 y30 y31 y32 y33 y34 y35 y36 y37 y38
   unfold ladderbacklaw09_CountRises.j4
   repeat' first
   | (with_reducible exact ih0 _ _ _ _ _ _ _ _ _ _ _ _ _ _ _ _ _ _ _ _ _ _ _ _ _ _ _ _ _ _ _ _ _ _ _ _ _)
   | (with_reducible exact ih1 _ _ _ _ _ _ _ _ _ _ _ _ _ _ _ _ _ _ _ _ _ _ _ _ _ _ _ _ _ _ _ _ _ _ _ _ _)
   | (with_reducible exact ih2 _ _ _ _ _ _ _ _ _ _ _ _ _ _ _ _ _ _ _ _ _ _ _ _ _ _ _ _ _ _ _ _ _ _ _ _ _ _ _)
   | (with_reducible exact ih3 _ _ _ _ _ _ _ _ _ _ _ _ _ _ _ _ _ _ _ _ _ _ _ _ _ _ _ _ _ _ _ _ _ _ _ _ _ _ _)
   | (with_reducible exact ih4 _ _ _ _ _ _ _ _ _ _ _ _ _ _ _ _ _ _ _ _ _ _ _ _ _ _ _ _ _ _ _ _ _ _ _ _ _ _ _)
   | (with_reducible exact ih5 _ _ _ _ _ _ _ _ _ _ _ _ _ _ _ _ _ _ _ _ _ _ _ _ _ _ _ _ _ _ _ _ _ _ _ _ _ _ _)
   | (with_reducible exact ih6 _ _ _ _ _ _ _ _ _ _ _ _ _ _ _ _ _ _ _ _ _ _ _ _ _ _ _ _ _ _ _ _ _ _ _ _ _ _ _ _)
   | (with_reducible exact ih7 _ _ _ _ _ _ _ _ _ _ _ _ _ _ _ _ _ _ _ _ _ _ _ _ _ _ _ _ _ _ _ _ _ _ _ _ _ _ _)
   | (with_reducible exact ih8 _ _ _ _ _ _ _ _ _ _ _ _ _ _ _ _ _ _ _ _ _ _ _ _ _ _ _ _ _ _ _ _ _ _ _ _ _ _)
   | (with_reducible exact LeO.refl _)
   | (with_reducible exact LeO.none _)
   | (with_reducible refine LeO.ite ?_ ?_)
   | (with_reducible refine LeO.bind ?_ (fun _ => ?_))
   | exact ih0 _ _ _ _ _ _ _ _ _ _ _ _ _ _ _ _ _ _ _ _ _ _ _ _ _ _ _ _ _ _ _ _ _ _ _ _ _
   | exact ih1 _ _ _ _ _ _ _ _ _ _ _ _ _ _ _ _ _ _ _ _ _ _ _ _ _ _ _ _ _ _ _ _ _ _ _ _ _
   | exact ih2 _ _ _ _ _ _ _ _ _ _ _ _ _ _ _ _ _ _ _ _ _ _ _ _ _ _ _ _ _ _ _ _ _ _ _ _ _ _ _
   | exact ih3 _ _ _ _ _ _ _ _ _ _ _ _ _ _ _ _ _ _ _ _ _ _ _ _ _ _ _ _ _ _ _ _ _ _ _ _ _ _ _
   | exact ih4 _ _ _ _ _ _ _ _ _ _ _ _ _ _ _ _ _ _ _ _ _ _ _ _ _ _ _ _ _ _ _ _ _ _ _ _ _ _ _
   | exact ih5 _ _ _ _ _ _ _ _ _ _ _ _ _ _ _ _ _ _ _ _ _ _ _ _ _ _ _ _ _ _ _ _ _ _ _ _ _ _ _
   | exact ih6 _ _ _ _ _ _ _ _ _ _ _ _ _ _ _ _ _ _ _ _ _ _ _ _ _ _ _ _ _ _ _ _ _ _ _ _ _ _ _ _
   | exact ih7 _ _ _ _ _ _ _ _ _ _ _ _ _ _ _ _ _ _ _ _ _ _ _ _ _ _ _ _ _ _ _ _ _ _ _ _ _ _ _
   | exact ih8 _ _ _ _ _ _ _ _ _ _ _ _ _ _ _ _ _ _ _ _ _ _ _ _ _ _ _ _ _ _ _ _ _ _ _ _ _ _
   | exact LeO.none _
   | refine LeO.ite ?_ ?_
   | refine LeO.bind ?_ (fun _ => ?_)
  ·
   intro y0 y1 y2 y3 y4 y5 y6 y7 y8 y9 y10 y11 y12 y13 y14 y15 y16 y17 y18 y19 y20 y21 y22 y23 y24 y25 y26 y27 y28 y29 y30 y31 y32 y33 y34 y35 y36 y37 y38
   unfold ladderbacklaw09_CountRises.j5
   repeat' first
   | (with_reducible exact ih0 _ _ _ _ _ _ _ _ _ _ _ _ _ _ _ _ _ _ _ _ _ _ _ _ _ _ _ _ _ _ _ _ _ _ _ _ _)
   | (with_reducible exact ih1 _ _ _ _ _ _ _ _ _ _ _ _ _ _ _ _ _ _ _ _ _ _ _ _ _ _ _ _ _ _ _ _ _ _ _ _ _)
   | (with_reducible exact ih2 _ _ _ _ _ _ _ _ _ _ _ _ _ _ _ _ _ _ _ _ _ _ _ _ _ _ _ _ _ _ _ _ _ _ _ _ _ _ _)
   | (with_reducible exact ih3 _ _ _ _ _ _ _ _ _ _ _ _ _ _ _ _ _ _ _ _ _ _ _ _ _ _ _ _ _ _ _ _ _ _ _ _ _ _ _)
   | (with_reducible exact ih4 _ _ _ _ _ _ _ _ _ _ _ _ _ _ _ _ _ _ _ _ _ _ _ _ _ _ _ _ _ _ _ _ _ _ _ _ _ _ _)
   | (with_reducible exact ih5 _ _ _ _ _ _ _ _ _ _ _ _ _ _ _ _ _ _ _ _ _ _ _ _ _ _ _ _ _ _ _ _ _ _ _ _ _ _ _)
   | (with_reducible exact ih6 _ _ _ _ _ _ _ _ _ _ _ _ _ _ _ _ _ _ _ _ _ _ _ _ _ _ _ _ _ _ _ _ _ _ _ _ _ _ _ _)
   | (with_reducible exact ih7 _ _ _ _ _ _ _ _ _ _ _ _ _ _ _ _ _ _ _ _ _ _ _ _ _ _ _ _ _ _ _ _ _ _ _ _ _ _ _)
   | (with_reducible exact ih8 _ _ _ _ _ _ _ _ _ _ _ _ _ _ _ _ _ _ _ _ _ _ _ _ _ _ _ _ _ _ _ _ _ _ _ _ _ _)
   | (with_reducible exact LeO.refl _)
   | (with_reducible exact LeO.none _)
   | (with_reducible refine LeO.ite ?_ ?_)
   | (with_reducible refine LeO.bind ?_ (fun _ => ?_))
   | exact ih0 _ _ _ _ _ _ _ _ _ _ _ _ _ _ _ _ _ _ _ _ _ _ _ _ _ _ _ _ _ _ _ _ _ _ _ _ _
   | exact ih1 _ _ _ _ _ _ _ _ _ _ _ _ _ _ _ _ _ _ _ _ _ _ _ _ _ _ _ _ _ _ _ _ _ _ _ _ _
   | exact ih2 _ _ _ _ _ _ _ _ _ _ _ _ _ _ _ _ _ _ _ _ _ _ _ _ _ _ _ _ _ _ _ _ _ _ _ _ _ _ _
   | exact ih3 _ _ _ _ _ _ _ _ _ _ _ _ _ _ _ _ _ _ _ _ _ _ _ _ _ _ _ _ _ _ _ _ _ _ _ _ _ _ _
   | exact ih4 _ _ _ _ _ _ _ _ _ _ _ _ _ _ _ _ _ _ _ _ _ _ _ _ _ _ _ _ _ _ _ _ _ _ _ _ _ _ _
   | exact ih5 _ _ _ _ _ _ _ _ _ _ _ _ _ _ _ _ _ _ _ _ _ _ _ _ _ _ _ _ _ _ _ _ _ _ _ _ _ _ _
   | exact ih6 _ _ _ _ _ _ _ _ _ _ _ _ _ _ _ _ _ _ _ _ _ _ _ _ _ _ _ _ _ _ _ _ _ _ _ _ _ _ _ _
   | exact ih7 _ _ _ _ _ _ _ _ _ _ _ _ _ _ _ _ _ _ _ _ _ _ _ _ _ _ _ _ _ _ _ _ _ _ _ _ _ _ _
   | exact ih8 _ _ _ _ _ _ _ _ _ _ _ _ _ _ _ _ _ _ _ _ _ _ _ _ _ _ _ _ _ _ _ _ _ _ _ _ _ _
   | exact LeO.none _
   | refine LeO.ite ?_ ?_
   | refine LeO.bind ?_ (fun _ => ?_)
  ·
   intro y0 y1 y2 y3 y4 y5 y6 y7 y8 y9 y10 y11 y12 y13 y14 y15 y16 y17 y18 y19 y20 y21 y22 y23 y24 y25 y26 y27 y28 y29 y30 y31 y32 y33 y34 y35 y36 y37 y38 y39
   unfold ladderbacklaw09_CountRises.j6
   repeat' first
   | (with_reducible exact ih0 _ _ _ _ _ _ _ _ _ _ _ _ _ _ _ _ _ _ _ _ _ _ _ _ _ _ _ _ _ _ _ _ _ _ _ _ _)
   | (with_reducible exact ih1 _ _ _ _ _ _ _ _ _ _ _ _ _ _ _ _ _ _ _ _ _ _ _ _ _ _ _ _ _ _ _ _ _ _ _ _ _)
   | (with_reducible exact ih2 _ _ _ _ _ _ _ _ _ _ _ _ _ _ _ _ _ _ _ _ _ _ _ _ _ _ _ _ _ _ _ _ _ _ _ _ _ _ _)
   | (with_reducible exact ih3 _ _ _ _ _ _ _ _ _ _ _ _ _ _ _ _ _ _ _ _ _ _ _ _ _ _ _ _ _ _ _ _ _ _ _ _ _ _ _)
   | (with_reducible exact ih4 _ _ _ _ _ _ _ _ _ _ _ _ _ _ _ _ _ _ _ _ _ _ _ _ _ _ _ _ _ _ _ _ _ _ _ _ _ _ _)
   | (with_reducible exact ih5 _ _ _ _ _ _ _ _ _ _ _ _ _ _ _ _ _ _ _ _ _ _ _ _ _ _ _ _ _ _ _ _ _ _ _ _ _ _ _)
   | (with_reducible exact ih6 _ _ _ _ _ _ _ _ _ _ _ _ _ _ _ _ _ _ _ _ _ _ _ _ _ _ _ _ _ _ _ _ _ _ _ _ _ _ _ _)
   | (with_reducible exact ih7 _ _ _ _ _ _ _ _ _ _ _ _ _ _ _ _ _ _ _ _ _ _ _ _ _ _ _ _ _ _ _ _ _ _ _ _ _ _ _)
   | (with_reducible exact ih8 _ _ _ _ _ _ _ _ _ _ _ _ _ _ _ _ _ _ _ _ _ _ _ _ _ _ _ _ _ _ _ _ _ _ _ _ _ _)
   | (with_reducible exact LeO.refl _)
   | (with_reducible exact LeO.none _)
   | (with_reducible refine LeO.ite ?_ ?_)
   | (with_reducible refine LeO.bind ?_ (fun _ => ?_))
   | exact ih0 _ _ _ _ _ _ _ _ _ _ _ _ _ _ _ _ _ _ _ _ _ _ _ _ _ _ _ _ _ _ _ _ _ _ _ _ _
   | exact ih1 _ _ _ _ _ _ _ _ _ _ _ _ _ _ _ _ _ _ _ _ _ _ _ _ _ _ _ _ _ _ _ _ _ _ _ _ _
   | exact ih2 _ _ _ _ _ _ _ _ _ _ _ _ _ _ _ _ _ _ _ _ _ _ _ _ _ _ _ _ _ _ _ _ _ _ _ _ _ _ _
   | exact ih3 _ _ _ _ _ _ _ _ _ _ _ _ _ _ _ _ _ _ _ _ _ _ _ _ _ _ _ _ _ _ _ _ _ _ _ _ _ _ _
   | exact ih4 _ _ _ _ _ _ _ _ _ _ _ _ _ _ _ _ _ _ _ _ _ _ _ _ _ _ _ _ _ _ _ _ _ _ _ _ _ _ _
   | exact ih5 _ _ _ _ _ _ _ _ _ _ _ _ _ _ _ _ _ _ _ _ _ _ _ _ _ _ _ _ _ _ _ _ _ _ _ _ _ _ _
   | exact ih6 _ _ _ _ _ _ _ _ _ _ _ _ _ _ _ _ _ _ _ _ _ _ _ _ _ _ _ _ _ _ _ _ _ _ _ _ _ _ _ _
   | exact ih7 _ _ _ _ _ _ _ _ _ _ _ _ _ _ _ _ _ _ _ _ _ _ _ _ _ _ _ _ _ _ _ _ _ _ _ _ _ _ _
   | exact ih8 _ _ _ _ _ _ _ _ _ _ _ _ _ _ _ _ _ _ _ _ _ _ _ _ _ _ _ _ _ _ _ _ _ _ _ _ _ _
   | exact LeO.none _
   | refine LeO.ite ?_ ?_
   | refine LeO.bind ?_ (fun _ => ?_)
  ·
   intro y0 y1 y2 y3 y4 y5 y6 y7 y8 y9 y10 y11 y12 y13 y14 y15 y16 y17 y18 y19 y20 y21 y22 y23 y24 y25 y26 y27 y28 y29 y30 y31 y32 y33 y34 y35 y36 y37 y38
   unfold ladderbacklaw09_CountRises.j7
   repeat' first
   | (with_reducible exact ih0 _ _ _ _ _ _ _ _ _ _ _ _ _ _ _ _ _ _ _ _ _ _ _ _ _ _ _ _ _ _ _ _ _ _ _ _ _)
   | (with_reducible exact ih1 _ _ _ _ _ _ _ _ _ _ _ _ _ _ _ _ _ _ _ _ _ _ _ _ _ _ _ _ _ _ _ _ _ _ _ _ _)
   | (with_reducible exact ih2 _ _ _ _ _ _ _ _ _ _ _ _ _ _ _ _ _ _ _ _ _ _ _ _ _ _ _ _ _ _ _ _ _ _ _ _ _ _ _)
   | (with_reducible exact ih3 _ _ _ _ _ _ _ _ _ _ _ _ _ _ _ _ _ _ _ _ _ _ _ _ _ _ _ _ _ _ _ _ _ _ _ _ _ _ _)
   | (with_reducible exact ih4 _ _ _ _ _ _ _ _ _ _ _ _ _ _ _ _ _ _ _ _ _ _ _ _ _ _ _ _ _ _ _ _ _ _ _ _ _ _ _)
   | (with_reducible exact ih5 _ _ _ _ _ _ _ _ _ _ _ _ _ _ _ _ _ _ _ _ _ _ _ _ _ _ _ _ _ _ _ _ _ _ _ _ _ _ _)
   | (with_reducible exact ih6 _ _ _ _ _ _ _ _ _ _ _ _ _ _ _ _ _ _ _ _ _ _ _ _ _ _ _ _ _ _ _ _ _ _ _ _ _ _ _ _)
   | (with_reducible exact ih7 _ _ _ _ _ _ _ _ _ _ _ _ _ _ _ _ _ _ _ _ _ _ _ _ _ _ _ _ _ _ _ _ _ _ _ _ _ _ _)
   | (with_reducible exact ih8 _ _ _ _ _ _ _ _ _ _ _ _ _ _ _ _ _ _ _ _ _ _ _ _ _ _ _ _ _ _ _ _ _ _ _ _ _ _)
   | (with_reducible exact LeO.refl _)
   | (with_reducible exact LeO.none _)
   | (with_reducible refine LeO.ite ?_ ?_)
   | (with_reducible refine LeO.bind ?_ (fun _ => ?_))
   | exact ih0 _ _ _ _ _ _ _ _ _ _ _ _ _ _ _ _ _ _ _ _ _ _ _ _ _ _ _ _ _ _ _ _ _ _ _ _ _
   | exact ih1 _ _ _ _ _ _ _ _ _ _ _ _ _ _ _ _ _ _ _ _ _ _ _ _ _ _ _ _ _ _ _ _ _ _ _ _ _
   | exact ih2 _ _ _ _ _ _ _ _ _ _ _ _ _ _ _ _ _ _ _ _ _ _ _ _ _ _ _ _ _ _ _ _ _ _ _ _ _ _ _
   | exact ih3 _ _ _ _ _ _ _ _ _ _ _ _ _ _ _ _ _ _ _ _ _ _ _ _ _ _ _ _ _ _ _ _ _ _ _ _ _ _ _
   | exact ih4 _ _ _ _ _ _ _ _ _ _ _ _ _ _ _ _ _ _ _ _ _ _ _ _ _ _ _ _ _ _ _ _ _ _ _ _ _ _ _
   | exact ih5 _ _ _ _ _ _ _ _ _ _ _ _ _ _ _ _ _ _ _ _ _ _ _ _ _ _ _ _ _ _ _ _ _ _ _ _ _ _ _
   | exact ih6 _ _ _ _ _ _ _ _ _ _ _ _ _ _ _ _ _ _ _ _ _ _ _ _ _ _ _ _ _ _ _ _ _ _ _ _ _ _ _ _
   | exact ih7 _ _ _ _ _ _ _ _ _ _ _ _ _ _ _ _ _ _ _ _ _ _ _ _ _ _ _ _ _ _ _ _ _ _ _ _ _ _ _
   | exact ih8 _ _ _ _ _ _ _ _ _ _ _ _ _ _ _ _ _ _ _ _ _ _ _ _ _ _ _ _ _ _ _ _ _ _ _ _ _ _
   | exact LeO.none _
   | refine LeO.ite ?_ ?_
   | refine LeO.bind ?_ (fun _ => ?_)
  ·
   intro y0 y1 y2 y3 y4 y5 y6 y7 y8 y9 y10 y11 y12 y13 y14 y15 y16 y17 y18 y19 y20 y21 y22 y23 y24 y25 y26 y27 y28 y29 y30 y31 y32 y33 y34 y35 y36 y37
   unfold ladderbacklaw09_CountRises.j8
   repeat' first
   | (with_reducible exact ih0 _ _ _ _ _ _ _ _ _ _ _ _ _ _ _ _ _ _ _ _ _ _ _ _ _ _ _ _ _ _ _ _ _ _ _ _ _)
   | (with_reducible exact ih1 _ _ _ _ _ _ _ _ _ _ _ _ _ _ _ _ _ _ _ _ _ _ _ _ _ _ _ _ _ _ _ _ _ _ _ _ _)
   | (with_reducible exact ih2 _ _ _ _ _ _ _ _ _ _ _ _ _ _ _ _ _ _ _ _ _ _ _ _ _ _ _ _ _ _ _ _ _ _ _ _ _ _ _)
   | (with_reducible exact ih3 _ _ _ _ _ _ _ _ _ _ _ _ _ _ _ _ _ _ _ _ _ _ _ _ _ _ _ _ _ _ _ _ _ _ _ _ _ _ _)
   | (with_reducible exact ih4 _ _ _ _ _ _ _ _ _ _ _ _ _ _ _ _ _ _ _ _ _ _ _ _ _ _ _ _ _ _ _ _ _ _ _ _ _ _ _)
   | (with_reducible exact ih5 _ _ _ _ _ _ _ _ _ _ _ _ _ _ _ _ _ _ _ _ _ _ _ _ _ _ _ _ _ _ _ _ _ _ _ _ _ _ _)
   | (with_reducible exact ih6 _ _ _ _ _ _ _ _ _ _ _ _ _ _ _ _ _ _ _ _ _ _ _ _ _ _ _ _ _ _ _ _ _ _ _ _ _ _ _ _)
   | (with_reducible exact ih7 _ _ _ _ _ _ _ _ _ _ _ _ _ _ _ _ _ _ _ _ _ _ _ _ _ _ _ _ _ _ _ _ _ _ _ _ _ _ _)
   | (with_reducible exact ih8 _ _ _ _ _ _ _ _ _ _ _ _ _ _ _ _ _ _ _ _ _ _ _ _ _ _ _ _ _ _ _ _ _ _ _ _ _ _)
   | (with_reducible exact LeO.refl _)
   | (with_reducible exact LeO.none _)
   | (with_reducible refine LeO.ite ?_ ?_)
   | (with_reducible refine LeO.bind ?_ (fun _ => ?_))
   | exact ih0 _ _ _ _ _ _ _ _ _ _ _ _ _ _ _ _ _ _ _ _ _ _ _ _ _ _ _ _ _ _ _ _ _ _ _ _ _
   | exact ih1 _ _ _ _ _ _ _ _ _ _ _ _ _ _ _ _ _ _ _ _ _ _ _ _ _ _ _ _ _ _ _ _ _ _ _ _ _
   | exact ih2 _ _ _ _ _ _ _ _ _ _ _ _ _ _ _ _ _ _ _ _ _ _ _ _ _ _ _ _ _ _ _ _ _ _ _ _ _ _ _
   | exact ih3 _ _ _ _ _ _ _ _ _ _ _ _ _ _ _ _ _ _ _ _ _ _ _ _ _ _ _ _ _ _ _ _ _ _ _ _ _ _ _
   | exact ih4 _ _ _ _ _ _ _ _ _ _ _ _ _ _ _ _ _ _ _ _ _ _ _ _ _ _ _ _ _ _ _ _ _ _ _ _ _ _ _
   | exact ih5 _ _ _ _ _ _ _ _ _ _ _ _ _ _ _ _ _ _ _ _ _ _ _ _ _ _ _ _ _ _ _ _ _ _ _ _ _ _ _
   | exact ih6 _ _ _ _ _ _ _ _ _ _ _ _ _ _ _ _ _ _ _ _ _ _ _ _ _ _ _ _ _ _ _ _ _ _ _ _ _ _ _ _
   | exact ih7 _ _ _ _ _ _ _ _ _ _ _ _ _ _ _ _ _ _ _ _ _ _ _ _ _ _ _ _ _ _ _ _ _ _ _ _ _ _ _
   | exact ih8 _ _ _ _ _ _ _ _ _ _ _ _ _ _ _ _ _ _ _ _ _ _ _ _ _ _ _ _ _ _ _ _ _ _ _ _ _ _
   | exact LeO.none _
   | refine LeO.ite ?_ ?_
   | refine LeO.bind ?_ (fun _ => ?_)
theorem ladderbacklaw09_CountRises.mono : ∀ a0 k, LeO (ladderbacklaw09_CountRises.f k a0) (ladderbacklaw09_CountRises.f (k + 1) a0) := by
 intro a0 k
 obtain ⟨ih0, ih1, ih2, ih3, ih4, ih5, ih6, ih7, ih8⟩ := ladderbacklaw09_CountRises.mono_l k
 unfold ladderbacklaw09_CountRises.f
 repeat' first
   | (with_reducible exact ih0 _ _ _ _ _ _ _ _ _ _ _ _ _ _ _ _ _ _ _ _ _ _ _ _ _ _ _ _ _ _ _ _ _ _ _ _ _)
   | (with_reducible exact ih1 _ _ _ _ _ _ _ _ _ _ _ _ _ _ _ _ _ _ _ _ _ _ _ _ _ _ _ _ _ _ _ _ _ _ _ _ _)
   | (with_reducible exact ih2 _ _ _ _ _ _ _ _ _ _ _ _ _ _ _ _ _ _ _ _ _ _ _ _ _ _ _ _ _ _ _ _ _ _ _ _ _ _ _)
   | (with_reducible exact ih3 _ _ _ _ _ _ _ _ _ _ _ _ _ _ _ _ _ _ _ _ _ _ _ _ _ _ _ _ _ _ _ _ _ _ _ _ _ _ _)
   | (with_reducible exact ih4 _ _ _ _ _ _ _ _ _ _ _ _ _ _ _ _ _ _ _ _ _ _ _ _ _ _ _ _ _ _ _ _ _ _ _ _ _ _ _)
   | (with_reducible exact ih5 _ _ _ _ _ _ _ _ _ _ _ _ _ _ _ _ _ _ _ _ _ _ _ _ _ _ _ _ _ _ _ _ _ _ _ _ _ _ _)
   | (with_reducible exact ih6 _ _ _ _ _ _ _ _ _ _ _ _ _ _ _ _ _ _ _ _ _ _ _ _ _ _ _ _ _ _ _ _ _ _ _ _ _ _ _ _)
   | (with_reducible exact ih7 _ _ _ _ _ _ _ _ _ _ _ _ _ _ _ _ _ _ _ _ _ _ _ _ _ _ _ _ _ _ _ _ _ _ _ _ _ _ _)
   | (with_reducible exact ih8 _ _ _ _ _ _ _ _ _ _ _ _ _ _ _ _ _ _ _ _ _ _ _ _ _ _ _ _ _ _ _ _ _ _ _ _ _ _)
   | (with_reducible exact LeO.refl _)
   | (with_reducible exact LeO.none _)
   | (with_reducible refine LeO.ite ?_ ?_)
   | (with_reducible refine LeO.bind ?_ (fun _ => ?_))
   | exact ih0 _ _ _ _ _ _ _ _ _ _ _ _ _ _ _ _ _ _ _ _ _ _ _ _ _ _ _ _ _ _ _ _ _ _ _ _ _
   | exact ih1 _ _ _ _ _ _ _ _ _ _ _ _ _ _ _ _ _ _ _ _ _ _ _ _ _ _ _ _ _ _ _ _ _ _ _ _ _
   | exact ih2 _ _ _ _ _ _ _ _ _ _ _ _ _ _ _ _ _ _ _ _ _ _ _ _ _ _ _ _ _ _ _ _ _ _ _ _ _ _ _
   | exact ih3 _ _ _ _ _ _ _ _ _ _ _ _ _ _ _ _ _ _ _ _ _ _ _ _ _ _ _ _ _ _ _ _ _ _ _ _ _ _ _
   | exact ih4 _ _ _ _ _ _ _ _ _ _ _ _ _ _ _ _ _ _ _ _ _ _ _ _ _ _ _ _ _ _ _ _ _ _ _ _ _ _ _
   | exact ih5 _ _ _ _ _ _ _ _ _ _ _ _ _ _ _ _ _ _ _ _ _ _ _ _ _ _ _ _ _ _ _ _ _ _ _ _ _ _ _
   | exact ih6 _ _ _ _ _ _ _ _ _ _ _ _ _ _ _ _ _ _ _ _ _ _ _ _ _ _ _ _ _ _ _ _ _ _ _ _ _ _ _ _
   | exact ih7 _ _ _ _ _ _ _ _ _ _ _ _ _ _ _ _ _ _ _ _ _ _ _ _ _ _ _ _ _ _ _ _ _ _ _ _ _ _ _
   | exact ih8 _ _ _ _ _ _ _ _ _ _ _ _ _ _ _ _ _ _ _ _ _ _ _ _ _ _ _ _ _ _ _ _ _ _ _ _ _ _
   | exact LeO.none _
   | refine LeO.ite ?_ ?_
   | refine LeO.bind ?_ (fun _ => ?_)
def ladderbacklaw09_CountRises.T21 : Bool × List (List Nat × List Nat) := (true, [([], []), ([0], [0]), ([], []), ([2, 1], [2]), ([], []), ([4, 3], [4]), ([1, 5, 0, 1], [1]), ([3, 6, 0, 1, 2, 3, 6], [3]), ([5, 7, 0, 1, 2, 3, 4, 5, 6, 7], [5])])
def ladderbacklaw09_CountRises.B21 : List Nat := [0, 1, 0, 7, 0, 31, 63, 127, 255]
theorem ladderbacklaw09_CountRises.tab21 : rtab .any (opsOf Try.f3 21) = ladderbacklaw09_CountRises.T21 := by kernel_rfl
theorem ladderbacklaw09_CountRises.bits21 : waitsOk ladderbacklaw09_CountRises.T21.2 ladderbacklaw09_CountRises.B21 = true := by kernel_rfl
set_option maxHeartbeats 8000000 in
set_option maxRecDepth 100000 in
theorem ladderbacklaw09_CountRises.calls (k : Nat) (A0 : Option Addr) (c0 : Nat) (l0 : List (S27)) (r : Bool) (w : World) (hr0 : Kd.C k27 w A0 l0.length l0) (hc0 : l0.length ≤ c0) (h : ladderbacklaw09_CountRises.f k l0 = some r) (hrt_ : r = true := by rfl) :
  Calls Try.prog 3 #[.slice A0 l0.length c0] w fun e w' => e = .returned (.bool r) ∧ Below w.heap.size w w' := by
 have hu26 := Try.underlying26
 have hu27 := Try.underlying27
 have HR0 := Aside0.mk hr0
 have HC0 := Aside0.mk hc0
 clear hr0 hc0
 have HB := Aside0.mk (Below.refl w.heap.size w)
 have H : (if (l0.length : Int) > 100 then ((ladderbacklaw09_awake.f).bind fun t113 => (some t113)) else (ladderbacklaw09_CountRises.l0 k l0 0 0 0 0 0 0 0 0 0 0 0 0 0 0 0 0 0 0 0 0 0 0 0 0 0 0 0 0 0 0 0 0 0 0 false false)) = some r := h
 clear h
 have HRT := Aside0.mk hrt_
 clear hrt_
 by_cases c2 : (l0.length : Int) > 100
 ·
  rw [if_pos c2] at H
  have c2b0 : decide (100 < (l0.length : Int)) = true := decide_eq_true c2
  have c2b1 : decide (100 < l0.length) = true := decide_eq_true (by omega)
  clear c2
  replace H := Option.bind_eq_some_iff.mp H
  obtain ⟨t113, A30, H⟩ := H
  replace H : (some t113) = some r := H
  have A3 := Aside0.mk A30
  clear A30
  obtain rfl := Option.some.inj H
  go_enter Try.func3, Try.ntmps3
  try go_wp2_with (first | ((with_reducible refine gate_callee (f := 9) rfl ?_); refine goesL_ (some 16) rfl rfl Try.func9 (by kernel_rfl) rfl #[] rfl (by (try simp only [List.map_toArray, List.map_cons, List.map_nil]); first | done | rfl | (simp only [List.length_drop, List.length_take]; rfl)) ?_; (with_reducible refine (ladderbacklaw09_awake.calls  t113 _ A3.out).mono ?_); rintro e w4 ⟨rfl, hb⟩; refine ⟨_, rfl, ?_⟩; have n0_ := Aside0.mk (below_step (by repeat (first | (with_reducible first | exact HB.out | apply below_alloc | apply pw_below_drewN | apply below_drew1) | exact HB.out)) hb); clear HB; have HB := n0_; clear n0_; (try clear hb); (try clear hb2); (try clear hk); (try clear hi)))
  repeat (go_quiet (fail); try go_wp2_with (first | ((with_reducible refine gate_callee (f := 9) rfl ?_); refine goesL_ (some 16) rfl rfl Try.func9 (by kernel_rfl) rfl #[] rfl (by (try simp only [List.map_toArray, List.map_cons, List.map_nil]); first | done | rfl | (simp only [List.length_drop, List.length_take]; rfl)) ?_; (with_reducible refine (ladderbacklaw09_awake.calls  t113 _ A3.out).mono ?_); rintro e w4 ⟨rfl, hb⟩; refine ⟨_, rfl, ?_⟩; have n0_ := Aside0.mk (below_step (by repeat (first | (with_reducible first | exact HB.out | apply below_alloc | apply pw_below_drewN | apply below_drew1) | exact HB.out)) hb); clear HB; have HB := n0_; clear n0_; (try clear hb); (try clear hb2); (try clear hk); (try clear hi))))
  go_ret
  exact ⟨by first | rfl | (simp [errW_none, errW_some] <;> rfl) | (simp [*, errW_none, errW_some] <;> rfl), by repeat (first | (with_reducible first | exact HB.out | apply below_alloc | apply pw_below_drewN | apply below_drew1) | exact HB.out)⟩
 ·
  rw [if_neg c2] at H
  have c2b0 : decide (100 < (l0.length : Int)) = false := decide_eq_false c2
  have c2b1 : decide (100 < l0.length) = false := decide_eq_false (by omega)
  clear c2
  have H' := Aside0.mk H
  clear H
  go_enter Try.func3, Try.ntmps3
  try go_wp2_with (first | ((with_reducible refine gate_dst (N := 3) rfl ?_); refine box_event ?hg (N := 3) ?hd (cs := #[.int .i64 0, .int .i64 0, .int .i64 0, .int .i64 0, .int .i64 0, .int .i64 0, .int .i64 0, .int .i64 0, .int .i64 0, .int .i64 0]) (t := 26) ?hr ?_; (case hd => rfl); (case hg => rfl); (case hr => first | (go_simp; done) | (go_simp; rfl)); intro gb114 hg w5 hbox hb; have n0_ := Aside0.mk (below_step (by repeat (first | (with_reducible first | exact HB.out | apply below_alloc | apply pw_below_drewN | apply below_drew1) | exact HB.out)) hb); have n1_ := Aside0.mk (hbox); have n2_ := Aside0.mk ((by rw [hg]; exact (below_size (by repeat (first | (with_reducible first | exact HB.out | apply below_alloc | apply pw_below_drewN | apply below_drew1) | exact HB.out))) : w.heap.size ≤ gb114)); have n3_ := Aside0.mk ((by rw [hg]; exact (below_size (by repeat (first | (with_reducible first | exact HB.out | apply below_alloc | apply pw_below_drewN | apply below_drew1) | exact HB.out))) : w.heap.size ≤ gb114)); clear HB; have HB := n0_; have BK114 := n1_; have GW114 := n2_; have GE114 := n3_; clear n0_ n1_ n2_ n3_; clear hb hbox hg) | ((with_reducible refine gate_dst (N := 4) rfl ?_); refine box_event ?hg (N := 4) ?hd (cs := #[.int .i64 0, .int .i64 0, .int .i64 0, .int .i64 0, .int .i64 0, .int .i64 0, .int .i64 0, .int .i64 0, .int .i64 0, .int .i64 0]) (t := 26) ?hr ?_; (case hd => rfl); (case hg => rfl); (case hr => first | (go_simp; done) | (go_simp; rfl)); intro gb115 hg w6 hbox hb; have n0_ := Aside0.mk (blk_below (g := gb114) (o := .cells #[.int .i64 0, .int .i64 0, .int .i64 0, .int .i64 0, .int .i64 0, .int .i64 0, .int .i64 0, .int .i64 0, .int .i64 0, .int .i64 0] 26 (0, 0)) (by (with_reducible repeat (first | refine blk_drewN ?_ _ | refine blk_drew ?_ | refine blk_alloc ?_ _)); exact BK114.out) hb); have n1_ := Aside0.mk (below_step (by repeat (first | (with_reducible first | exact HB.out | apply below_alloc | apply pw_below_drewN | apply below_drew1 | refine below_set ?_ GE114.out) | exact HB.out)) hb); have n2_ := Aside0.mk (hbox); have n3_ := Aside0.mk ((by rw [hg]; exact (below_size (by repeat (first | (with_reducible first | exact HB.out | apply below_alloc | apply pw_below_drewN | apply below_drew1 | refine below_set ?_ GE114.out) | exact HB.out))) : w.heap.size ≤ gb115)); have n4_ := Aside0.mk ((by rw [hg]; exact (below_size (by repeat (first | (with_reducible first | exact HB.out | apply below_alloc | apply pw_below_drewN | apply below_drew1 | refine below_set ?_ GE114.out) | exact HB.out))) : w.heap.size ≤ gb115)); have n5_ := Aside0.mk ((by rw [hg]; exact Nat.ne_of_lt (blk_lt (g := gb114) (o := .cells #[.int .i64 0, .int .i64 0, .int .i64 0, .int .i64 0, .int .i64 0, .int .i64 0, .int .i64 0, .int .i64 0, .int .i64 0, .int .i64 0] 26 (0, 0)) (by (with_reducible repeat (first | refine blk_drewN ?_ _ | refine blk_drew ?_ | refine blk_alloc ?_ _)); exact BK114.out)) : gb114 ≠ gb115)); have n6_ := Aside0.mk ((by rw [hg]; exact Nat.ne_of_gt (blk_lt (g := gb114) (o := .cells #[.int .i64 0, .int .i64 0, .int .i64 0, .int .i64 0, .int .i64 0, .int .i64 0, .int .i64 0, .int .i64 0, .int .i64 0, .int .i64 0] 26 (0, 0)) (by (with_reducible repeat (first | refine blk_drewN ?_ _ | refine blk_drew ?_ | refine blk_alloc ?_ _)); exact BK114.out)) : gb115 ≠ gb114)); clear BK114; clear HB; have BK114 := n0_; have HB := n1_; have BK115 := n2_; have GW115 := n3_; have GE115 := n4_; have NB114_115 := n5_; have NB115_114 := n6_; clear n0_ n1_ n2_ n3_ n4_ n5_ n6_; clear hb hbox hg) | ((with_reducible refine gate_dst (N := 5) rfl ?_); refine box_event ?hg (N := 5) ?hd (cs := #[.int .i64 0, .int .i64 0, .int .i64 0, .int .i64 0, .int .i64 0, .int .i64 0, .int .i64 0, .int .i64 0, .int .i64 0, .int .i64 0]) (t := 26) ?hr ?_; (case hd => rfl); (case hg => rfl); (case hr => first | (go_simp; done) | (go_simp; rfl)); intro gb116 hg w7 hbox hb; have n0_ := Aside0.mk (blk_below (g := gb114) (o := .cells #[.int .i64 0, .int .i64 0, .int .i64 0, .int .i64 0, .int .i64 0, .int .i64 0, .int .i64 0, .int .i64 0, .int .i64 0, .int .i64 0] 26 (0, 0)) (by (with_reducible repeat (first | refine blk_drewN ?_ _ | refine blk_drew ?_ | refine blk_alloc ?_ _)); exact BK114.out) hb); have n1_ := Aside0.mk (blk_below (g := gb115) (o := .cells #[.int .i64 0, .int .i64 0, .int .i64 0, .int .i64 0, .int .i64 0, .int .i64 0, .int .i64 0, .int .i64 0, .int .i64 0, .int .i64 0] 26 (0, 0)) (by (with_reducible repeat (first | refine blk_drewN ?_ _ | refine blk_drew ?_ | refine blk_alloc ?_ _)); exact BK115.out) hb); have n2_ := Aside0.mk (below_step (by repeat (first | (with_reducible first | exact HB.out | apply below_alloc | apply pw_below_drewN | apply below_drew1 | refine below_set ?_ GE114.out | refine below_set ?_ GE115.out) | exact HB.out)) hb); have n3_ := Aside0.mk (hbox); have n4_ := Aside0.mk ((by rw [hg]; exact (below_size (by repeat (first | (with_reducible first | exact HB.out | apply below_alloc | apply pw_below_drewN | apply below_drew1 | refine below_set ?_ GE114.out | refine below_set ?_ GE115.out) | exact HB.out))) : w.heap.size ≤ gb116)); have n5_ := Aside0.mk ((by rw [hg]; exact (below_size (by repeat (first | (with_reducible first | exact HB.out | apply below_alloc | apply pw_below_drewN | apply below_drew1 | refine below_set ?_ GE114.out | refine below_set ?_ GE115.out) | exact HB.out))) : w.heap.size ≤ gb116)); have n6_ := Aside0.mk ((by rw [hg]; exact Nat.ne_of_lt (blk_lt (g := gb114) (o := .cells #[.int .i64 0, .int .i64 0, .int .i64 0, .int .i64 0, .int .i64 0, .int .i64 0, .int .i64 0, .int .i64 0, .int .i64 0, .int .i64 0] 26 (0, 0)) (by (with_reducible repeat (first | refine blk_drewN ?_ _ | refine blk_drew ?_ | refine blk_alloc ?_ _)); exact BK114.out)) : gb114 ≠ gb116)); have n7_ := Aside0.mk ((by rw [hg]; exact Nat.ne_of_gt (blk_lt (g := gb114) (o := .cells #[.int .i64 0, .int .i64 0, .int .i64 0, .int .i64 0, .int .i64 0, .int .i64 0, .int .i64 0, .int .i64 0, .int .i64 0, .int .i64 0] 26 (0, 0)) (by (with_reducible repeat (first | refine blk_drewN ?_ _ | refine blk_drew ?_ | refine blk_alloc ?_ _)); exact BK114.out)) : gb116 ≠ gb114)); have n8_ := Aside0.mk ((by rw [hg]; exact Nat.ne_of_lt (blk_lt (g := gb115) (o := .cells #[.int .i64 0, .int .i64 0, .int .i64 0, .int .i64 0, .int .i64 0, .int .i64 0, .int .i64 0, .int .i64 0, .int .i64 0, .int .i64 0] 26 (0, 0)) (by (with_reducible repeat (first | refine blk_drewN ?_ _ | refine blk_drew ?_ | refine blk_alloc ?_ _)); exact BK115.out)) : gb115 ≠ gb116)); have n9_ := Aside0.mk ((by rw [hg]; exact Nat.ne_of_gt (blk_lt (g := gb115) (o := .cells #[.int .i64 0, .int .i64 0, .int .i64 0, .int .i64 0, .int .i64 0, .int .i64 0, .int .i64 0, .int .i64 0, .int .i64 0, .int .i64 0] 26 (0, 0)) (by (with_reducible repeat (first | refine blk_drewN ?_ _ | refine blk_drew ?_ | refine blk_alloc ?_ _)); exact BK115.out)) : gb116 ≠ gb115)); clear BK114; clear BK115; clear HB; have BK114 := n0_; have BK115 := n1_; have HB := n2_; have BK116 := n3_; have GW116 := n4_; have GE116 := n5_; have NB114_116 := n6_; have NB116_114 := n7_; have NB115_116 := n8_; have NB116_115 := n9_; clear n0_ n1_ n2_ n3_ n4_ n5_ n6_ n7_ n8_ n9_; clear hb hbox hg) | ((with_reducible refine gate_dst (N := 6) rfl ?_); refine box_event ?hg (N := 6) ?hd (cs := #[.bool false, .bool false]) (t := 27) ?hr ?_; (case hd => rfl); (case hg => rfl); (case hr => first | (go_simp; done) | (go_simp; rfl)); intro gb117 hg w8 hbox hb; have n0_ := Aside0.mk (blk_below (g := gb114) (o := .cells #[.int .i64 0, .int .i64 0, .int .i64 0, .int .i64 0, .int .i64 0, .int .i64 0, .int .i64 0, .int .i64 0, .int .i64 0, .int .i64 0] 26 (0, 0)) (by (with_reducible repeat (first | refine blk_drewN ?_ _ | refine blk_drew ?_ | refine blk_alloc ?_ _)); exact BK114.out) hb); have n1_ := Aside0.mk (blk_below (g := gb115) (o := .cells #[.int .i64 0, .int .i64 0, .int .i64 0, .int .i64 0, .int .i64 0, .int .i64 0, .int .i64 0, .int .i64 0, .int .i64 0, .int .i64 0] 26 (0, 0)) (by (with_reducible repeat (first | refine blk_drewN ?_ _ | refine blk_drew ?_ | refine blk_alloc ?_ _)); exact BK115.out) hb); have n2_ := Aside0.mk (blk_below (g := gb116) (o := .cells #[.int .i64 0, .int .i64 0, .int .i64 0, .int .i64 0, .int .i64 0, .int .i64 0, .int .i64 0, .int .i64 0, .int .i64 0, .int .i64 0] 26 (0, 0)) (by (with_reducible repeat (first | refine blk_drewN ?_ _ | refine blk_drew ?_ | refine blk_alloc ?_ _)); exact BK116.out) hb); have n3_ := Aside0.mk (below_step (by repeat (first | (with_reducible first | exact HB.out | apply below_alloc | apply pw_below_drewN | apply below_drew1 | refine below_set ?_ GE114.out | refine below_set ?_ GE115.out | refine below_set ?_ GE116.out) | exact HB.out)) hb); have n4_ := Aside0.mk (hbox); have n5_ := Aside0.mk ((by rw [hg]; exact (below_size (by repeat (first | (with_reducible first | exact HB.out | apply below_alloc | apply pw_below_drewN | apply below_drew1 | refine below_set ?_ GE114.out | refine below_set ?_ GE115.out | refine below_set ?_ GE116.out) | exact HB.out))) : w.heap.size ≤ gb117)); have n6_ := Aside0.mk ((by rw [hg]; exact (below_size (by repeat (first | (with_reducible first | exact HB.out | apply below_alloc | apply pw_below_drewN | apply below_drew1 | refine below_set ?_ GE114.out | refine below_set ?_ GE115.out | refine below_set ?_ GE116.out) | exact HB.out))) : w.heap.size ≤ gb117)); have n7_ := Aside0.mk ((by rw [hg]; exact Nat.ne_of_lt (blk_lt (g := gb114) (o := .cells #[.int .i64 0, .int .i64 0, .int .i64 0, .int .i64 0, .int .i64 0, .int .i64 0, .int .i64 0, .int .i64 0, .int .i64 0, .int .i64 0] 26 (0, 0)) (by (with_reducible repeat (first | refine blk_drewN ?_ _ | refine blk_drew ?_ | refine blk_alloc ?_ _)); exact BK114.out)) : gb114 ≠ gb117)); have n8_ := Aside0.mk ((by rw [hg]; exact Nat.ne_of_gt (blk_lt (g := gb114) (o := .cells #[.int .i64 0, .int .i64 0, .int .i64 0, .int .i64 0, .int .i64 0, .int .i64 0, .int .i64 0, .int .i64 0, .int .i64 0, .int .i64 0] 26 (0, 0)) (by (with_reducible repeat (first | refine blk_drewN ?_ _ | refine blk_drew ?_ | refine blk_alloc ?_ _)); exact BK114.out)) : gb117 ≠ gb114)); have n9_ := Aside0.mk ((by rw [hg]; exact Nat.ne_of_lt (blk_lt (g := gb115) (o := .cells #[.int .i64 0, .int .i64 0, .int .i64 0, .int .i64 0, .int .i64 0, .int .i64 0, .int .i64 0, .int .i64 0, .int .i64 0, .int .i64 0] 26 (0, 0)) (by (with_reducible repeat (first | refine blk_drewN ?_ _ | refine blk_drew ?_ | refine blk_alloc ?_ _)); exact BK115.out)) : gb115 ≠ gb117)); have n10_ := Aside0.mk ((by rw [hg]; exact Nat.ne_of_gt (blk_lt (g := gb115) (o := .cells #[.int .i64 0, .int .i64 0, .int .i64 0, .int .i64 0, .int .i64 0, .int .i64 0, .int .i64 0, .int .i64 0, .int .i64 0, .int .i64 0] 26 (0, 0)) (by (with_reducible repeat (first | refine blk_drewN ?_ _ | refine blk_drew ?_ | refine blk_alloc ?_ _)); exact BK115.out)) : gb117 ≠ gb115)); have n11_ := Aside0.mk ((by rw [hg]; exact Nat.ne_of_lt (blk_lt (g := gb116) (o := .cells #[.int .i64 0, .int .i64 0, .int .i64 0, .int .i64 0, .int .i64 0, .int .i64 0, .int .i64 0, .int .i64 0, .int .i64 0, .int .i64 0] 26 (0, 0)) (by (with_reducible repeat (first | refine blk_drewN ?_ _ | refine blk_drew ?_ | refine blk_alloc ?_ _)); exact BK116.out)) : gb116 ≠ gb117)); have n12_ := Aside0.mk ((by rw [hg]; exact Nat.ne_of_gt (blk_lt (g := gb116) (o := .cells #[.int .i64 0, .int .i64 0, .int .i64 0, .int .i64 0, .int .i64 0, .int .i64 0, .int .i64 0, .int .i64 0, .int .i64 0, .int .i64 0] 26 (0, 0)) (by (with_reducible repeat (first | refine blk_drewN ?_ _ | refine blk_drew ?_ | refine blk_alloc ?_ _)); exact BK116.out)) : gb117 ≠ gb116)); clear BK114; clear BK115; clear BK116; clear HB; have BK114 := n0_; have BK115 := n1_; have BK116 := n2_; have HB := n3_; have BK117 := n4_; have GW117 := n5_; have GE117 := n6_; have NB114_117 := n7_; have NB117_114 := n8_; have NB115_117 := n9_; have NB117_115 := n10_; have NB116_117 := n11_; have NB117_116 := n12_; clear n0_ n1_ n2_ n3_ n4_ n5_ n6_ n7_ n8_ n9_ n10_ n11_ n12_; clear hb hbox hg))
  repeat (go_quiet (fail); try go_wp2_with (first | ((with_reducible refine gate_dst (N := 3) rfl ?_); refine box_event ?hg (N := 3) ?hd (cs := #[.int .i64 0, .int .i64 0, .int .i64 0, .int .i64 0, .int .i64 0, .int .i64 0, .int .i64 0, .int .i64 0, .int .i64 0, .int .i64 0]) (t := 26) ?hr ?_; (case hd => rfl); (case hg => rfl); (case hr => first | (go_simp; done) | (go_simp; rfl)); intro gb114 hg w5 hbox hb; have n0_ := Aside0.mk (below_step (by repeat (first | (with_reducible first | exact HB.out | apply below_alloc | apply pw_below_drewN | apply below_drew1) | exact HB.out)) hb); have n1_ := Aside0.mk (hbox); have n2_ := Aside0.mk ((by rw [hg]; exact (below_size (by repeat (first | (with_reducible first | exact HB.out | apply below_alloc | apply pw_below_drewN | apply below_drew1) | exact HB.out))) : w.heap.size ≤ gb114)); have n3_ := Aside0.mk ((by rw [hg]; exact (below_size (by repeat (first | (with_reducible first | exact HB.out | apply below_alloc | apply pw_below_drewN | apply below_drew1) | exact HB.out))) : w.heap.size ≤ gb114)); clear HB; have HB := n0_; have BK114 := n1_; have GW114 := n2_; have GE114 := n3_; clear n0_ n1_ n2_ n3_; clear hb hbox hg) | ((with_reducible refine gate_dst (N := 4) rfl ?_); refine box_event ?hg (N := 4) ?hd (cs := #[.int .i64 0, .int .i64 0, .int .i64 0, .int .i64 0, .int .i64 0, .int .i64 0, .int .i64 0, .int .i64 0, .int .i64 0, .int .i64 0]) (t := 26) ?hr ?_; (case hd => rfl); (case hg => rfl); (case hr => first | (go_simp; done) | (go_simp; rfl)); intro gb115 hg w6 hbox hb; have n0_ := Aside0.mk (blk_below (g := gb114) (o := .cells #[.int .i64 0, .int .i64 0, .int .i64 0, .int .i64 0, .int .i64 0, .int .i64 0, .int .i64 0, .int .i64 0, .int .i64 0, .int .i64 0] 26 (0, 0)) (by (with_reducible repeat (first | refine blk_drewN ?_ _ | refine blk_drew ?_ | refine blk_alloc ?_ _)); exact BK114.out) hb); have n1_ := Aside0.mk (below_step (by repeat (first | (with_reducible first | exact HB.out | apply below_alloc | apply pw_below_drewN | apply below_drew1 | refine below_set ?_ GE114.out) | exact HB.out)) hb); have n2_ := Aside0.mk (hbox); have n3_ := Aside0.mk ((by rw [hg]; exact (below_size (by repeat (first | (with_reducible first | exact HB.out | apply below_alloc | apply pw_below_drewN | apply below_drew1 | refine below_set ?_ GE114.out) | exact HB.out))) : w.heap.size ≤ gb115)); have n4_ := Aside0.mk ((by rw [hg]; exact (below_size (by repeat (first | (with_reducible first | exact HB.out | apply below_alloc | apply pw_below_drewN | apply below_drew1 | refine below_set ?_ GE114.out) | exact HB.out))) : w.heap.size ≤ gb115)); have n5_ := Aside0.mk ((by rw [hg]; exact Nat.ne_of_lt (blk_lt (g := gb114) (o := .cells #[.int .i64 0, .int .i64 0, .int .i64 0, .int .i64 0, .int .i64 0, .int .i64 0, .int .i64 0, .int .i64 0, .int .i64 0, .int .i64 0] 26 (0, 0)) (by (with_reducible repeat (first | refine blk_drewN ?_ _ | refine blk_drew ?_ | refine blk_alloc ?_ _)); exact BK114.out)) : gb114 ≠ gb115)); have n6_ := Aside0.mk ((by rw [hg]; exact Nat.ne_of_gt (blk_lt (g := gb114) (o := .cells #[.int .i64 0, .int .i64 0, .int .i64 0, .int .i64 0, .int .i64 0, .int .i64 0, .int .i64 0, .int .i64 0, .int .i64 0, .int .i64 0] 26 (0, 0)) (by (with_reducible repeat (first | refine blk_drewN ?_ _ | refine blk_drew ?_ | refine blk_alloc ?_ _)); exact BK114.out)) : gb115 ≠ gb114)); clear BK114; clear HB; have BK114 := n0_; have HB := n1_; have BK115 := n2_; have GW115 := n3_; have GE115 := n4_; have NB114_115 := n5_; have NB115_114 := n6_; clear n0_ n1_ n2_ n3_ n4_ n5_ n6_; clear hb hbox hg) | ((with_reducible refine gate_dst (N := 5) rfl ?_); refine box_event ?hg (N := 5) ?hd (cs := #[.int .i64 0, .int .i64 0, .int .i64 0, .int .i64 0, .int .i64 0, .int .i64 0, .int .i64 0, .int .i64 0, .int .i64 0, .int .i64 0]) (t := 26) ?hr ?_; (case hd => rfl); (case hg => rfl); (case hr => first | (go_simp; done) | (go_simp; rfl)); intro gb116 hg w7 hbox hb; have n0_ := Aside0.mk (blk_below (g := gb114) (o := .cells #[.int .i64 0, .int .i64 0, .int .i64 0, .int .i64 0, .int .i64 0, .int .i64 0, .int .i64 0, .int .i64 0, .int .i64 0, .int .i64 0] 26 (0, 0)) (by (with_reducible repeat (first | refine blk_drewN ?_ _ | refine blk_drew ?_ | refine blk_alloc ?_ _)); exact BK114.out) hb); have n1_ := Aside0.mk (blk_below (g := gb115) (o := .cells #[.int .i64 0, .int .i64 0, .int .i64 0, .int .i64 0, .int .i64 0, .int .i64 0, .int .i64 0, .int .i64 0, .int .i64 0, .int .i64 0] 26 (0, 0)) (by (with_reducible repeat (first | refine blk_drewN ?_ _ | refine blk_drew ?_ | refine blk_alloc ?_ _)); exact BK115.out) hb); have n2_ := Aside0.mk (below_step (by repeat (first | (with_reducible first | exact HB.out | apply below_alloc | apply pw_below_drewN | apply below_drew1 | refine below_set ?_ GE114.out | refine below_set ?_ GE115.out) | exact HB.out)) hb); have n3_ := Aside0.mk (hbox); have n4_ := Aside0.mk ((by rw [hg]; exact (below_size (by repeat (first | (with_reducible first | exact HB.out | apply below_alloc | apply pw_below_drewN | apply below_drew1 | refine below_set ?_ GE114.out | refine below_set ?_ GE115.out) | exact HB.out))) : w.heap.size ≤ gb116)); have n5_ := Aside0.mk ((by rw [hg]; exact (below_size (by repeat (first | (with_reducible first | exact HB.out | apply below_alloc | apply pw_below_drewN | apply below_drew1 | refine below_set ?_ GE114.out | refine below_set ?_ GE115.out) | exact HB.out))) : w.heap.size ≤ gb116)); have n6_ := Aside0.mk ((by rw [hg]; exact Nat.ne_of_lt (blk_lt (g := gb114) (o := .cells #[.int .i64 0, .int .i64 0, .int .i64 0, .int .i64 0, .int .i64 0, .int .i64 0, .int .i64 0, .int .i64 0, .int .i64 0, .int .i64 0] 26 (0, 0)) (by (with_reducible repeat (first | refine blk_drewN ?_ _ | refine blk_drew ?_ | refine blk_alloc ?_ _)); exact BK114.out)) : gb114 ≠ gb116)); have n7_ := Aside0.mk ((by rw [hg]; exact Nat.ne_of_gt (blk_lt (g := gb114) (o := .cells #[.int .i64 0, .int .i64 0, .int .i64 0, .int .i64 0, .int .i64 0, .int .i64 0, .int .i64 0, .int .i64 0, .int .i64 0, .int .i64 0] 26 (0, 0)) (by (with_reducible repeat (first | refine blk_drewN ?_ _ | refine blk_drew ?_ | refine blk_alloc ?_ _)); exact BK114.out)) : gb116 ≠ gb114)); have n8_ := Aside0.mk ((by rw [hg]; exact Nat.ne_of_lt (blk_lt (g := gb115) (o := .cells #[.int .i64 0, .int .i64 0, .int .i64 0, .int .i64 0, .int .i64 0, .int .i64 0, .int .i64 0, .int .i64 0, .int .i64 0, .int .i64 0] 26 (0, 0)) (by (with_reducible repeat (first | refine blk_drewN ?_ _ | refine blk_drew ?_ | refine blk_alloc ?_ _)); exact BK115.out)) : gb115 ≠ gb116)); have n9_ := Aside0.mk ((by rw [hg]; exact Nat.ne_of_gt (blk_lt (g := gb115) (o := .cells #[.int .i64 0, .int .i64 0, .int .i64 0, .int .i64 0, .int .i64 0, .int .i64 0, .int .i64 0, .int .i64 0, .int .i64 0, .int .i64 0] 26 (0, 0)) (by (with_reducible repeat (first | refine blk_drewN ?_ _ | refine blk_drew ?_ | refine blk_alloc ?_ _)); exact BK115.out)) : gb116 ≠ gb115)); clear BK114; clear BK115; clear HB; have BK114 := n0_; have BK115 := n1_; have HB := n2_; have BK116 := n3_; have GW116 := n4_; have GE116 := n5_; have NB114_116 := n6_; have NB116_114 := n7_; have NB115_116 := n8_; have NB116_115 := n9_; clear n0_ n1_ n2_ n3_ n4_ n5_ n6_ n7_ n8_ n9_; clear hb hbox hg) | ((with_reducible refine gate_dst (N := 6) rfl ?_); refine box_event ?hg (N := 6) ?hd (cs := #[.bool false, .bool false]) (t := 27) ?hr ?_; (case hd => rfl); (case hg => rfl); (case hr => first | (go_simp; done) | (go_simp; rfl)); intro gb117 hg w8 hbox hb; have n0_ := Aside0.mk (blk_below (g := gb114) (o := .cells #[.int .i64 0, .int .i64 0, .int .i64 0, .int .i64 0, .int .i64 0, .int .i64 0, .int .i64 0, .int .i64 0, .int .i64 0, .int .i64 0] 26 (0, 0)) (by (with_reducible repeat (first | refine blk_drewN ?_ _ | refine blk_drew ?_ | refine blk_alloc ?_ _)); exact BK114.out) hb); have n1_ := Aside0.mk (blk_below (g := gb115) (o := .cells #[.int .i64 0, .int .i64 0, .int .i64 0, .int .i64 0, .int .i64 0, .int .i64 0, .int .i64 0, .int .i64 0, .int .i64 0, .int .i64 0] 26 (0, 0)) (by (with_reducible repeat (first | refine blk_drewN ?_ _ | refine blk_drew ?_ | refine blk_alloc ?_ _)); exact BK115.out) hb); have n2_ := Aside0.mk (blk_below (g := gb116) (o := .cells #[.int .i64 0, .int .i64 0, .int .i64 0, .int .i64 0, .int .i64 0, .int .i64 0, .int .i64 0, .int .i64 0, .int .i64 0, .int .i64 0] 26 (0, 0)) (by (with_reducible repeat (first | refine blk_drewN ?_ _ | refine blk_drew ?_ | refine blk_alloc ?_ _)); exact BK116.out) hb); have n3_ := Aside0.mk (below_step (by repeat (first | (with_reducible first | exact HB.out | apply below_alloc | apply pw_below_drewN | apply below_drew1 | refine below_set ?_ GE114.out | refine below_set ?_ GE115.out | refine below_set ?_ GE116.out) | exact HB.out)) hb); have n4_ := Aside0.mk (hbox); have n5_ := Aside0.mk ((by rw [hg]; exact (below_size (by repeat (first | (with_reducible first | exact HB.out | apply below_alloc | apply pw_below_drewN | apply below_drew1 | refine below_set ?_ GE114.out | refine below_set ?_ GE115.out | refine below_set ?_ GE116.out) | exact HB.out))) : w.heap.size ≤ gb117)); have n6_ := Aside0.mk ((by rw [hg]; exact (below_size (by repeat (first | (with_reducible first | exact HB.out | apply below_alloc | apply pw_below_drewN | apply below_drew1 | refine below_set ?_ GE114.out | refine below_set ?_ GE115.out | refine below_set ?_ GE116.out) | exact HB.out))) : w.heap.size ≤ gb117)); have n7_ := Aside0.mk ((by rw [hg]; exact Nat.ne_of_lt (blk_lt (g := gb114) (o := .cells #[.int .i64 0, .int .i64 0, .int .i64 0, .int .i64 0, .int .i64 0, .int .i64 0, .int .i64 0, .int .i64 0, .int .i64 0, .int .i64 0] 26 (0, 0)) (by (with_reducible repeat (first | refine blk_drewN ?_ _ | refine blk_drew ?_ | refine blk_alloc ?_ _)); exact BK114.out)) : gb114 ≠ gb117)); have n8_ := Aside0.mk ((by rw [hg]; exact Nat.ne_of_gt (blk_lt (g := gb114) (o := .cells #[.int .i64 0, .int .i64 0, .int .i64 0, .int .i64 0, .int .i64 0, .int .i64 0, .int .i64 0, .int .i64 0, .int .i64 0, .int .i64 0] 26 (0, 0)) (by (with_reducible repeat (first | refine blk_drewN ?_ _ | refine blk_drew ?_ | refine blk_alloc ?_ _)); exact BK114.out)) : gb117 ≠ gb114)); have n9_ := Aside0.mk ((by rw [hg]; exact Nat.ne_of_lt (blk_lt (g := gb115) (o := .cells #[.int .i64 0, .int .i64 0, .int .i64 0, .int .i64 0, .int .i64 0, .int .i64 0, .int .i64 0, .int .i64 0, .int .i64 0, .int .i64 0] 26 (0, 0)) (by (with_reducible repeat (first | refine blk_drewN ?_ _ | refine blk_drew ?_ | refine blk_alloc ?_ _)); exact BK115.out)) : gb115 ≠ gb117)); have n10_ := Aside0.mk ((by rw [hg]; exact Nat.ne_of_gt (blk_lt (g := gb115) (o := .cells #[.int .i64 0, .int .i64 0, .int .i64 0, .int .i64 0, .int .i64 0, .int .i64 0, .int .i64 0, .int .i64 0, .int .i64 0, .int .i64 0] 26 (0, 0)) (by (with_reducible repeat (first | refine blk_drewN ?_ _ | refine blk_drew ?_ | refine blk_alloc ?_ _)); exact BK115.out)) : gb117 ≠ gb115)); have n11_ := Aside0.mk ((by rw [hg]; exact Nat.ne_of_lt (blk_lt (g := gb116) (o := .cells #[.int .i64 0, .int .i64 0, .int .i64 0, .int .i64 0, .int .i64 0, .int .i64 0, .int .i64 0, .int .i64 0, .int .i64 0, .int .i64 0] 26 (0, 0)) (by (with_reducible repeat (first | refine blk_drewN ?_ _ | refine blk_drew ?_ | refine blk_alloc ?_ _)); exact BK116.out)) : gb116 ≠ gb117)); have n12_ := Aside0.mk ((by rw [hg]; exact Nat.ne_of_gt (blk_lt (g := gb116) (o := .cells #[.int .i64 0, .int .i64 0, .int .i64 0, .int .i64 0, .int .i64 0, .int .i64 0, .int .i64 0, .int .i64 0, .int .i64 0, .int .i64 0] 26 (0, 0)) (by (with_reducible repeat (first | refine blk_drewN ?_ _ | refine blk_drew ?_ | refine blk_alloc ?_ _)); exact BK116.out)) : gb117 ≠ gb116)); clear BK114; clear BK115; clear BK116; clear HB; have BK114 := n0_; have BK115 := n1_; have BK116 := n2_; have HB := n3_; have BK117 := n4_; have GW117 := n5_; have GE117 := n6_; have NB114_117 := n7_; have NB117_114 := n8_; have NB115_117 := n9_; have NB117_115 := n10_; have NB116_117 := n11_; have NB117_116 := n12_; clear n0_ n1_ n2_ n3_ n4_ n5_ n6_ n7_ n8_ n9_ n10_ n11_ n12_; clear hb hbox hg)))
  go_loopg [7, 8, 9, 10] k (fun kq v7 v8 v9 v10 w' => ∃ (x7_1 : Int) (x8_1 : Int) (x9_1 : Int) (x10_1 : Int) (x115000_1 : Int) (x115001_1 : Int) (x115002_1 : Int) (x115003_1 : Int) (x115004_1 : Int) (x115005_1 : Int) (x115006_1 : Int) (x115007_1 : Int) (x115008_1 : Int) (x115009_1 : Int) (x116000_1 : Int) (x116001_1 : Int) (x116002_1 : Int) (x116003_1 : Int) (x116004_1 : Int) (x116005_1 : Int) (x116006_1 : Int) (x116007_1 : Int) (x116008_1 : Int) (x116009_1 : Int) (x117000_1 : Int) (x117001_1 : Int) (x117002_1 : Int) (x117003_1 : Int) (x117004_1 : Int) (x117005_1 : Int) (x117006_1 : Int) (x117007_1 : Int) (x117008_1 : Int) (x117009_1 : Int) (x118000_1 : Bool) (x118001_1 : Bool), v7 = .int .i64 x7_1 ∧ v8 = .int .i64 x8_1 ∧ v9 = .int .i64 x9_1 ∧ v10 = .int .i64 x10_1 ∧ Aside0 (ladderbacklaw09_CountRises.l0 kq l0 x7_1 x8_1 x9_1 x10_1 x115000_1 x115001_1 x115002_1 x115003_1 x115004_1 x115005_1 x115006_1 x115007_1 x115008_1 x115009_1 x116000_1 x116001_1 x116002_1 x116003_1 x116004_1 x116005_1 x116006_1 x116007_1 x116008_1 x116009_1 x117000_1 x117001_1 x117002_1 x117003_1 x117004_1 x117005_1 x117006_1 x117007_1 x117008_1 x117009_1 x118000_1 x118001_1 = some r) ∧ Aside0 (kq ≤ k) ∧ Aside0 (w'.heap[gb114]? = some (.cells #[.int .i64 x115000_1, .int .i64 x115001_1, .int .i64 x115002_1, .int .i64 x115003_1, .int .i64 x115004_1, .int .i64 x115005_1, .int .i64 x115006_1, .int .i64 x115007_1, .int .i64 x115008_1, .int .i64 x115009_1] 26 (0, 0))) ∧ Aside0 (w'.heap[gb115]? = some (.cells #[.int .i64 x116000_1, .int .i64 x116001_1, .int .i64 x116002_1, .int .i64 x116003_1, .int .i64 x116004_1, .int .i64 x116005_1, .int .i64 x116006_1, .int .i64 x116007_1, .int .i64 x116008_1, .int .i64 x116009_1] 26 (0, 0))) ∧ Aside0 (w'.heap[gb116]? = some (.cells #[.int .i64 x117000_1, .int .i64 x117001_1, .int .i64 x117002_1, .int .i64 x117003_1, .int .i64 x117004_1, .int .i64 x117005_1, .int .i64 x117006_1, .int .i64 x117007_1, .int .i64 x117008_1, .int .i64 x117009_1] 26 (0, 0))) ∧ Aside0 (w'.heap[gb117]? = some (.cells #[.bool x118000_1, .bool x118001_1] 27 (0, 0))) ∧ Aside0 (Below w.heap.size w w'))
  case atStart => exact ⟨(0), (0), (0), (0), (0), (0), (0), (0), (0), (0), (0), (0), (0), (0), (0), (0), (0), (0), (0), (0), (0), (0), (0), (0), (0), (0), (0), (0), (0), (0), (0), (0), (0), (0), (false), (false), (by first | rfl | (simp; done) | (simp [*]; done)), (by first | rfl | (simp; done) | (simp [*]; done)), (by first | rfl | (simp; done) | (simp [*]; done)), (by first | rfl | (simp; done) | (simp [*]; done)), H', ⟨Nat.le_refl _⟩, ⟨by (with_reducible repeat (first | refine blk_drewN ?_ _ | refine blk_drew ?_ | refine blk_alloc ?_ _)); exact BK114.out⟩, ⟨by (with_reducible repeat (first | refine blk_drewN ?_ _ | refine blk_drew ?_ | refine blk_alloc ?_ _)); exact BK115.out⟩, ⟨by (with_reducible repeat (first | refine blk_drewN ?_ _ | refine blk_drew ?_ | refine blk_alloc ?_ _)); exact BK116.out⟩, ⟨by (with_reducible repeat (first | refine blk_drewN ?_ _ | refine blk_drew ?_ | refine blk_alloc ?_ _)); exact BK117.out⟩, ⟨by repeat (first | (with_reducible first | exact HB.out | apply below_alloc | apply pw_below_drewN | apply below_drew1 | refine below_set ?_ GE114.out | refine below_set ?_ GE115.out | refine below_set ?_ GE116.out | refine below_set ?_ GE117.out) | exact HB.out)⟩⟩
  case round =>
   clear H'
   (try clear c2); (try clear c2b0); (try clear c2b1)
   obtain ⟨x7_1, x8_1, x9_1, x10_1, x115000_1, x115001_1, x115002_1, x115003_1, x115004_1, x115005_1, x115006_1, x115007_1, x115008_1, x115009_1, x116000_1, x116001_1, x116002_1, x116003_1, x116004_1, x116005_1, x116006_1, x116007_1, x116008_1, x116009_1, x117000_1, x117001_1, x117002_1, x117003_1, x117004_1, x117005_1, x117006_1, x117007_1, x117008_1, x117009_1, x118000_1, x118001_1, rfl, rfl, rfl, rfl, HA, HK1, BK114, BK115, BK116, BK117, HB⟩ := hrel
   cases gk with
   | zero => exact absurd HA.out (by simp [ladderbacklaw09_CountRises.l0])
   | succ k1 =>
    have H := HA.out
    clear HA
    simp only [ladderbacklaw09_CountRises.l0] at H
    by_cases c9 : x10_1 < (l0.length : Int)
    ·
     rw [if_pos c9] at H
     have c9b0 : decide (x10_1 < (l0.length : Int)) = true := decide_eq_true c9
     clear c9
     have HC10 := Aside0.mk H
     clear H
     go_upto_region 9 with (fail)
     repeat (go_quiet (fail); go_upto_region 9 with (fail))
     go_cut [11, 12] (fun v11 v12 wc => ∃ (kq : Nat) (x11_9 : Bool) (x12_9 : Bool), v11 = .bool x11_9 ∧ v12 = .bool x12_9 ∧ Aside0 (ladderbacklaw09_CountRises.j1 kq l0 x7_1 x8_1 x9_1 x10_1 x11_9 x12_9 x115000_1 x115001_1 x115002_1 x115003_1 x115004_1 x115005_1 x115006_1 x115007_1 x115008_1 x115009_1 x116000_1 x116001_1 x116002_1 x116003_1 x116004_1 x116005_1 x116006_1 x116007_1 x116008_1 x116009_1 x117000_1 x117001_1 x117002_1 x117003_1 x117004_1 x117005_1 x117006_1 x117007_1 x117008_1 x117009_1 = some r) ∧ Aside0 (kq ≤ k1) ∧ Aside0 (wc.heap[gb114]? = some (.cells #[.int .i64 x115000_1, .int .i64 x115001_1, .int .i64 x115002_1, .int .i64 x115003_1, .int .i64 x115004_1, .int .i64 x115005_1, .int .i64 x115006_1, .int .i64 x115007_1, .int .i64 x115008_1, .int .i64 x115009_1] 26 (0, 0))) ∧ Aside0 (wc.heap[gb115]? = some (.cells #[.int .i64 x116000_1, .int .i64 x116001_1, .int .i64 x116002_1, .int .i64 x116003_1, .int .i64 x116004_1, .int .i64 x116005_1, .int .i64 x116006_1, .int .i64 x116007_1, .int .i64 x116008_1, .int .i64 x116009_1] 26 (0, 0))) ∧ Aside0 (wc.heap[gb116]? = some (.cells #[.int .i64 x117000_1, .int .i64 x117001_1, .int .i64 x117002_1, .int .i64 x117003_1, .int .i64 x117004_1, .int .i64 x117005_1, .int .i64 x117006_1, .int .i64 x117007_1, .int .i64 x117008_1, .int .i64 x117009_1] 26 (0, 0))) ∧ Aside0 (wc.heap[gb117]? = some (.cells #[.bool x118000_1, .bool x118001_1] 27 (0, 0))) ∧ Aside0 (Below w.heap.size w wc))
     case first =>
      have H := HC10.out
      clear HC10
      by_cases c11 : 0 ≤ x10_1
      ·
       rw [if_pos c11] at H
       have c11b0 : decide (0 ≤ x10_1) = true := decide_eq_true c11
       clear c11
       (first | rw [c11b0] | (simp only [i64_w, i32_w]; rw [c11b0]) | skip)
       by_cases c12 : (rd_T27 l0 x10_1).f0 = true
       ·
        rw [if_pos c12] at H
        have c12b0 : (rd_T27 l0 x10_1).f0 = true := c12
        clear c12
        by_cases c13 : (rd_T27 l0 x10_1).f1 = true
        ·
         rw [if_pos c13] at H
         have c13b0 : (rd_T27 l0 x10_1).f1 = true := c13
         clear c13
         have H' := Aside0.mk H
         clear H
         have p119 : 0 ≤ (x10_1 : Int) := of_decide_eq_true (by first | (with_reducible assumption) | assumption)
         have q119 : x10_1 < (l0.length : Int) := of_decide_eq_true (by first | (with_reducible assumption) | assumption)
         obtain ⟨ad119, e119, hx119_0, hx119_1⟩ := at_T27 HR0.out x10_1 p119 q119
         cases e119
         replace hx119_0 := (HB.out.cell (World.block_lt_of_cell? w _ hx119_0)).trans hx119_0
         replace hx119_1 := (HB.out.cell (World.block_lt_of_cell? w _ hx119_1)).trans hx119_1
         replace p119 := eq_true p119
         replace q119 := eq_true q119
         have hnb14 := NB117_114.out
         have hnc14 := NB114_117.out
         have hnb15 := NB117_115.out
         have hnc15 := NB115_117.out
         have hnb16 := NB117_116.out
         have hnc16 := NB116_117.out
         obtain ⟨hcz17_0, hcz17_1⟩ := box2_ BK117.out
         obtain ⟨hfz17_0, hfz17_1⟩ := frz2_ BK117.out
         have p120 : 0 ≤ (x10_1 : Int) := of_decide_eq_true (by first | (with_reducible assumption) | assumption)
         have q120 : x10_1 < (l0.length : Int) := of_decide_eq_true (by first | (with_reducible assumption) | assumption)
         obtain ⟨ad120, e120, hx120_0, hx120_1⟩ := at_T27 HR0.out x10_1 p120 q120
         obtain rfl : ad119 = ad120 := (by injection e120)
         replace hx120_0 := (HB.out.cell (World.block_lt_of_cell? w _ hx120_0)).trans hx120_0
         replace hx120_1 := (HB.out.cell (World.block_lt_of_cell? w _ hx120_1)).trans hx120_1
         replace p120 := eq_true p120
         replace q120 := eq_true q120
         try go_wp2
         repeat (go_quiet (fail); try go_wp2)
         go_meet
         case rel => (try simp only [c12b0, c13b0] at H' BK114 BK115 BK116 BK117 ⊢); exact ⟨_, (!x118000_1), (!x118001_1), (by first | rfl | (simp; done) | (simp [*]; done)), (by first | rfl | (simp; done) | (simp [*]; done)), H', ⟨by have := HK1.out; first | omega | exact Nat.le_refl _⟩, ⟨by (with_reducible repeat (first | refine blk_drewN ?_ _ | refine blk_drew ?_ | refine blk_alloc ?_ _)); exact BK114.out⟩, ⟨by (with_reducible repeat (first | refine blk_drewN ?_ _ | refine blk_drew ?_ | refine blk_alloc ?_ _)); exact BK115.out⟩, ⟨by (with_reducible repeat (first | refine blk_drewN ?_ _ | refine blk_drew ?_ | refine blk_alloc ?_ _)); exact BK116.out⟩, ⟨by (with_reducible repeat (first | refine blk_drewN ?_ _ | refine blk_drew ?_ | refine blk_alloc ?_ _)); exact BK117.out⟩, ⟨by repeat (first | (with_reducible first | exact HB.out | apply below_alloc | apply pw_below_drewN | apply below_drew1 | refine below_set ?_ GE114.out | refine below_set ?_ GE115.out | refine below_set ?_ GE116.out | refine below_set ?_ GE117.out) | exact HB.out)⟩⟩
        ·
         rw [if_neg c13] at H
         have c13b0 : (rd_T27 l0 x10_1).f1 = false := by simpa using c13
         clear c13
         have H' := Aside0.mk H
         clear H
         have p119 : 0 ≤ (x10_1 : Int) := of_decide_eq_true (by first | (with_reducible assumption) | assumption)
         have q119 : x10_1 < (l0.length : Int) := of_decide_eq_true (by first | (with_reducible assumption) | assumption)
         obtain ⟨ad119, e119, hx119_0, hx119_1⟩ := at_T27 HR0.out x10_1 p119 q119
         cases e119
         replace hx119_0 := (HB.out.cell (World.block_lt_of_cell? w _ hx119_0)).trans hx119_0
         replace hx119_1 := (HB.out.cell (World.block_lt_of_cell? w _ hx119_1)).trans hx119_1
         replace p119 := eq_true p119
         replace q119 := eq_true q119
         have hnb18 := NB117_114.out
         have hnc18 := NB114_117.out
         have hnb19 := NB117_115.out
         have hnc19 := NB115_117.out
         have hnb20 := NB117_116.out
         have hnc20 := NB116_117.out
         obtain ⟨hcz21_0, hcz21_1⟩ := box2_ BK117.out
         obtain ⟨hfz21_0, hfz21_1⟩ := frz2_ BK117.out
         have p120 : 0 ≤ (x10_1 : Int) := of_decide_eq_true (by first | (with_reducible assumption) | assumption)
         have q120 : x10_1 < (l0.length : Int) := of_decide_eq_true (by first | (with_reducible assumption) | assumption)
         obtain ⟨ad120, e120, hx120_0, hx120_1⟩ := at_T27 HR0.out x10_1 p120 q120
         obtain rfl : ad119 = ad120 := (by injection e120)
         replace hx120_0 := (HB.out.cell (World.block_lt_of_cell? w _ hx120_0)).trans hx120_0
         replace hx120_1 := (HB.out.cell (World.block_lt_of_cell? w _ hx120_1)).trans hx120_1
         replace p120 := eq_true p120
         replace q120 := eq_true q120
         try go_wp2
         repeat (go_quiet (fail); try go_wp2)
         go_meet
         case rel => (try simp only [c12b0, c13b0] at H' BK114 BK115 BK116 BK117 ⊢); exact ⟨_, (!x118000_1), (false), (by first | rfl | (simp; done) | (simp [*]; done)), (by first | rfl | (simp; done) | (simp [*]; done)), H', ⟨by have := HK1.out; first | omega | exact Nat.le_refl _⟩, ⟨by (with_reducible repeat (first | refine blk_drewN ?_ _ | refine blk_drew ?_ | refine blk_alloc ?_ _)); exact BK114.out⟩, ⟨by (with_reducible repeat (first | refine blk_drewN ?_ _ | refine blk_drew ?_ | refine blk_alloc ?_ _)); exact BK115.out⟩, ⟨by (with_reducible repeat (first | refine blk_drewN ?_ _ | refine blk_drew ?_ | refine blk_alloc ?_ _)); exact BK116.out⟩, ⟨by (with_reducible repeat (first | refine blk_drewN ?_ _ | refine blk_drew ?_ | refine blk_alloc ?_ _)); exact BK117.out⟩, ⟨by repeat (first | (with_reducible first | exact HB.out | apply below_alloc | apply pw_below_drewN | apply below_drew1 | refine below_set ?_ GE114.out | refine below_set ?_ GE115.out | refine below_set ?_ GE116.out | refine below_set ?_ GE117.out) | exact HB.out)⟩⟩
       ·
        rw [if_neg c12] at H
        have c12b0 : (rd_T27 l0 x10_1).f0 = false := by simpa using c12
        clear c12
        by_cases c22 : (rd_T27 l0 x10_1).f1 = true
        ·
         rw [if_pos c22] at H
         have c22b0 : (rd_T27 l0 x10_1).f1 = true := c22
         clear c22
         have H' := Aside0.mk H
         clear H
         have p119 : 0 ≤ (x10_1 : Int) := of_decide_eq_true (by first | (with_reducible assumption) | assumption)
         have q119 : x10_1 < (l0.length : Int) := of_decide_eq_true (by first | (with_reducible assumption) | assumption)
         obtain ⟨ad119, e119, hx119_0, hx119_1⟩ := at_T27 HR0.out x10_1 p119 q119
         cases e119
         replace hx119_0 := (HB.out.cell (World.block_lt_of_cell? w _ hx119_0)).trans hx119_0
         replace hx119_1 := (HB.out.cell (World.block_lt_of_cell? w _ hx119_1)).trans hx119_1
         replace p119 := eq_true p119
         replace q119 := eq_true q119
         have p121 : 0 ≤ (x10_1 : Int) := of_decide_eq_true (by first | (with_reducible assumption) | assumption)
         have q121 : x10_1 < (l0.length : Int) := of_decide_eq_true (by first | (with_reducible assumption) | assumption)
         obtain ⟨ad121, e121, hx121_0, hx121_1⟩ := at_T27 HR0.out x10_1 p121 q121
         obtain rfl : ad119 = ad121 := (by injection e121)
         replace hx121_0 := (HB.out.cell (World.block_lt_of_cell? w _ hx121_0)).trans hx121_0
         replace hx121_1 := (HB.out.cell (World.block_lt_of_cell? w _ hx121_1)).trans hx121_1
         replace p121 := eq_true p121
         replace q121 := eq_true q121
         have hnb23 := NB117_114.out
         have hnc23 := NB114_117.out
         have hnb24 := NB117_115.out
         have hnc24 := NB115_117.out
         have hnb25 := NB117_116.out
         have hnc25 := NB116_117.out
         obtain ⟨hcz26_0, hcz26_1⟩ := box2_ BK117.out
         obtain ⟨hfz26_0, hfz26_1⟩ := frz2_ BK117.out
         try go_wp2
         repeat (go_quiet (fail); try go_wp2)
         go_meet
         case rel => (try simp only [c12b0, c22b0] at H' BK114 BK115 BK116 BK117 ⊢); exact ⟨_, (false), (!x118001_1), (by first | rfl | (simp; done) | (simp [*]; done)), (by first | rfl | (simp; done) | (simp [*]; done)), H', ⟨by have := HK1.out; first | omega | exact Nat.le_refl _⟩, ⟨by (with_reducible repeat (first | refine blk_drewN ?_ _ | refine blk_drew ?_ | refine blk_alloc ?_ _)); exact BK114.out⟩, ⟨by (with_reducible repeat (first | refine blk_drewN ?_ _ | refine blk_drew ?_ | refine blk_alloc ?_ _)); exact BK115.out⟩, ⟨by (with_reducible repeat (first | refine blk_drewN ?_ _ | refine blk_drew ?_ | refine blk_alloc ?_ _)); exact BK116.out⟩, ⟨by (with_reducible repeat (first | refine blk_drewN ?_ _ | refine blk_drew ?_ | refine blk_alloc ?_ _)); exact BK117.out⟩, ⟨by repeat (first | (with_reducible first | exact HB.out | apply below_alloc | apply pw_below_drewN | apply below_drew1 | refine below_set ?_ GE114.out | refine below_set ?_ GE115.out | refine below_set ?_ GE116.out | refine below_set ?_ GE117.out) | exact HB.out)⟩⟩
        ·
         rw [if_neg c22] at H
         have c22b0 : (rd_T27 l0 x10_1).f1 = false := by simpa using c22
         clear c22
         have H' := Aside0.mk H
         clear H
         have p119 : 0 ≤ (x10_1 : Int) := of_decide_eq_true (by first | (with_reducible assumption) | assumption)
         have q119 : x10_1 < (l0.length : Int) := of_decide_eq_true (by first | (with_reducible assumption) | assumption)
         obtain ⟨ad119, e119, hx119_0, hx119_1⟩ := at_T27 HR0.out x10_1 p119 q119
         cases e119
         replace hx119_0 := (HB.out.cell (World.block_lt_of_cell? w _ hx119_0)).trans hx119_0
         replace hx119_1 := (HB.out.cell (World.block_lt_of_cell? w _ hx119_1)).trans hx119_1
         replace p119 := eq_true p119
         replace q119 := eq_true q119
         have p121 : 0 ≤ (x10_1 : Int) := of_decide_eq_true (by first | (with_reducible assumption) | assumption)
         have q121 : x10_1 < (l0.length : Int) := of_decide_eq_true (by first | (with_reducible assumption) | assumption)
         obtain ⟨ad121, e121, hx121_0, hx121_1⟩ := at_T27 HR0.out x10_1 p121 q121
         obtain rfl : ad119 = ad121 := (by injection e121)
         replace hx121_0 := (HB.out.cell (World.block_lt_of_cell? w _ hx121_0)).trans hx121_0
         replace hx121_1 := (HB.out.cell (World.block_lt_of_cell? w _ hx121_1)).trans hx121_1
         replace p121 := eq_true p121
         replace q121 := eq_true q121
         try go_wp2
         repeat (go_quiet (fail); try go_wp2)
         go_meet
         case rel => (try simp only [c12b0, c22b0] at H' BK114 BK115 BK116 BK117 ⊢); exact ⟨_, (false), (false), (by first | rfl | (simp; done) | (simp [*]; done)), (by first | rfl | (simp; done) | (simp [*]; done)), H', ⟨by have := HK1.out; first | omega | exact Nat.le_refl _⟩, ⟨by (with_reducible repeat (first | refine blk_drewN ?_ _ | refine blk_drew ?_ | refine blk_alloc ?_ _)); exact BK114.out⟩, ⟨by (with_reducible repeat (first | refine blk_drewN ?_ _ | refine blk_drew ?_ | refine blk_alloc ?_ _)); exact BK115.out⟩, ⟨by (with_reducible repeat (first | refine blk_drewN ?_ _ | refine blk_drew ?_ | refine blk_alloc ?_ _)); exact BK116.out⟩, ⟨by (with_reducible repeat (first | refine blk_drewN ?_ _ | refine blk_drew ?_ | refine blk_alloc ?_ _)); exact BK117.out⟩, ⟨by repeat (first | (with_reducible first | exact HB.out | apply below_alloc | apply pw_below_drewN | apply below_drew1 | refine below_set ?_ GE114.out | refine below_set ?_ GE115.out | refine below_set ?_ GE116.out | refine below_set ?_ GE117.out) | exact HB.out)⟩⟩
      ·
       rw [if_neg c11] at H
       exact absurd H (by simp)
     case rest =>
      clear HC10
      (try clear c9); (try clear c9b0)
      obtain ⟨kq, x11_9, x12_9, rfl, rfl, HA, HJ9, BK114, BK115, BK116, BK117, HB⟩ := hcut
      cases kq with
      | zero => exact absurd HA.out (by simp [ladderbacklaw09_CountRises.j1])
      | succ kj9 =>
       have H := HA.out
       clear HA
       simp only [ladderbacklaw09_CountRises.j1] at H
       by_cases c27 : 0 ≤ x10_1
       ·
        rw [if_pos c27] at H
        have c27b0 : decide (0 ≤ x10_1) = true := decide_eq_true c27
        clear c27
        by_cases c28 : x10_1 < (l0.length : Int)
        ·
         rw [if_pos c28] at H
         have c28b0 : decide (x10_1 < (l0.length : Int)) = true := decide_eq_true c28
         clear c28
         have HC29 := Aside0.mk H
         clear H
         have p122 : 0 ≤ (x10_1 : Int) := of_decide_eq_true (by first | (with_reducible assumption) | assumption)
         have q122 : x10_1 < (l0.length : Int) := of_decide_eq_true (by first | (with_reducible assumption) | assumption)
         obtain ⟨ad122, e122, hx122_0, hx122_1⟩ := at_T27 HR0.out x10_1 p122 q122
         cases e122
         replace hx122_0 := (HB.out.cell (World.block_lt_of_cell? w _ hx122_0)).trans hx122_0
         replace hx122_1 := (HB.out.cell (World.block_lt_of_cell? w _ hx122_1)).trans hx122_1
         replace p122 := eq_true p122
         replace q122 := eq_true q122
         have hnb30 := NB117_114.out
         have hnc30 := NB114_117.out
         have hnb31 := NB117_115.out
         have hnc31 := NB115_117.out
         have hnb32 := NB117_116.out
         have hnc32 := NB116_117.out
         obtain ⟨hcz33_0, hcz33_1⟩ := box2_ BK117.out
         obtain ⟨hfz33_0, hfz33_1⟩ := frz2_ BK117.out
         have hnb34 := NB114_115.out
         have hnc34 := NB115_114.out
         have hnb35 := NB114_116.out
         have hnc35 := NB116_114.out
         have hcz36_0 : wc.cell? ⟨gb114, 0, none⟩ = some (.int .i64 x115000_1) := (blk_cell BK114.out 0).trans rfl
         have hcz36_1 : wc.cell? ⟨gb114, 1, none⟩ = some (.int .i64 x115001_1) := (blk_cell BK114.out 1).trans rfl
         have hcz36_2 : wc.cell? ⟨gb114, 2, none⟩ = some (.int .i64 x115002_1) := (blk_cell BK114.out 2).trans rfl
         have hcz36_3 : wc.cell? ⟨gb114, 3, none⟩ = some (.int .i64 x115003_1) := (blk_cell BK114.out 3).trans rfl
         have hcz36_4 : wc.cell? ⟨gb114, 4, none⟩ = some (.int .i64 x115004_1) := (blk_cell BK114.out 4).trans rfl
         have hcz36_5 : wc.cell? ⟨gb114, 5, none⟩ = some (.int .i64 x115005_1) := (blk_cell BK114.out 5).trans rfl
         have hcz36_6 : wc.cell? ⟨gb114, 6, none⟩ = some (.int .i64 x115006_1) := (blk_cell BK114.out 6).trans rfl
         have hcz36_7 : wc.cell? ⟨gb114, 7, none⟩ = some (.int .i64 x115007_1) := (blk_cell BK114.out 7).trans rfl
         have hcz36_8 : wc.cell? ⟨gb114, 8, none⟩ = some (.int .i64 x115008_1) := (blk_cell BK114.out 8).trans rfl
         have hcz36_9 : wc.cell? ⟨gb114, 9, none⟩ = some (.int .i64 x115009_1) := (blk_cell BK114.out 9).trans rfl
         have hfz36_0 := blk_frozen BK114.out 0
         have hfz36_1 := blk_frozen BK114.out 1
         have hfz36_2 := blk_frozen BK114.out 2
         have hfz36_3 := blk_frozen BK114.out 3
         have hfz36_4 := blk_frozen BK114.out 4
         have hfz36_5 := blk_frozen BK114.out 5
         have hfz36_6 := blk_frozen BK114.out 6
         have hfz36_7 := blk_frozen BK114.out 7
         have hfz36_8 := blk_frozen BK114.out 8
         have hfz36_9 := blk_frozen BK114.out 9
         have hnb37 := NB115_116.out
         have hnc37 := NB116_115.out
         have hcz38_0 : wc.cell? ⟨gb115, 0, none⟩ = some (.int .i64 x116000_1) := (blk_cell BK115.out 0).trans rfl
         have hcz38_1 : wc.cell? ⟨gb115, 1, none⟩ = some (.int .i64 x116001_1) := (blk_cell BK115.out 1).trans rfl
         have hcz38_2 : wc.cell? ⟨gb115, 2, none⟩ = some (.int .i64 x116002_1) := (blk_cell BK115.out 2).trans rfl
         have hcz38_3 : wc.cell? ⟨gb115, 3, none⟩ = some (.int .i64 x116003_1) := (blk_cell BK115.out 3).trans rfl
         have hcz38_4 : wc.cell? ⟨gb115, 4, none⟩ = some (.int .i64 x116004_1) := (blk_cell BK115.out 4).trans rfl
         have hcz38_5 : wc.cell? ⟨gb115, 5, none⟩ = some (.int .i64 x116005_1) := (blk_cell BK115.out 5).trans rfl
         have hcz38_6 : wc.cell? ⟨gb115, 6, none⟩ = some (.int .i64 x116006_1) := (blk_cell BK115.out 6).trans rfl
         have hcz38_7 : wc.cell? ⟨gb115, 7, none⟩ = some (.int .i64 x116007_1) := (blk_cell BK115.out 7).trans rfl
         have hcz38_8 : wc.cell? ⟨gb115, 8, none⟩ = some (.int .i64 x116008_1) := (blk_cell BK115.out 8).trans rfl
         have hcz38_9 : wc.cell? ⟨gb115, 9, none⟩ = some (.int .i64 x116009_1) := (blk_cell BK115.out 9).trans rfl
         have hfz38_0 := blk_frozen BK115.out 0
         have hfz38_1 := blk_frozen BK115.out 1
         have hfz38_2 := blk_frozen BK115.out 2
         have hfz38_3 := blk_frozen BK115.out 3
         have hfz38_4 := blk_frozen BK115.out 4
         have hfz38_5 := blk_frozen BK115.out 5
         have hfz38_6 := blk_frozen BK115.out 6
         have hfz38_7 := blk_frozen BK115.out 7
         have hfz38_8 := blk_frozen BK115.out 8
         have hfz38_9 := blk_frozen BK115.out 9
         have hcz39_0 : wc.cell? ⟨gb116, 0, none⟩ = some (.int .i64 x117000_1) := (blk_cell BK116.out 0).trans rfl
         have hcz39_1 : wc.cell? ⟨gb116, 1, none⟩ = some (.int .i64 x117001_1) := (blk_cell BK116.out 1).trans rfl
         have hcz39_2 : wc.cell? ⟨gb116, 2, none⟩ = some (.int .i64 x117002_1) := (blk_cell BK116.out 2).trans rfl
         have hcz39_3 : wc.cell? ⟨gb116, 3, none⟩ = some (.int .i64 x117003_1) := (blk_cell BK116.out 3).trans rfl
         have hcz39_4 : wc.cell? ⟨gb116, 4, none⟩ = some (.int .i64 x117004_1) := (blk_cell BK116.out 4).trans rfl
         have hcz39_5 : wc.cell? ⟨gb116, 5, none⟩ = some (.int .i64 x117005_1) := (blk_cell BK116.out 5).trans rfl
         have hcz39_6 : wc.cell? ⟨gb116, 6, none⟩ = some (.int .i64 x117006_1) := (blk_cell BK116.out 6).trans rfl
         have hcz39_7 : wc.cell? ⟨gb116, 7, none⟩ = some (.int .i64 x117007_1) := (blk_cell BK116.out 7).trans rfl
         have hcz39_8 : wc.cell? ⟨gb116, 8, none⟩ = some (.int .i64 x117008_1) := (blk_cell BK116.out 8).trans rfl
         have hcz39_9 : wc.cell? ⟨gb116, 9, none⟩ = some (.int .i64 x117009_1) := (blk_cell BK116.out 9).trans rfl
         have hfz39_0 := blk_frozen BK116.out 0
         have hfz39_1 := blk_frozen BK116.out 1
         have hfz39_2 := blk_frozen BK116.out 2
         have hfz39_3 := blk_frozen BK116.out 3
         have hfz39_4 := blk_frozen BK116.out 4
         have hfz39_5 := blk_frozen BK116.out 5
         have hfz39_6 := blk_frozen BK116.out 6
         have hfz39_7 := blk_frozen BK116.out 7
         have hfz39_8 := blk_frozen BK116.out 8
         have hfz39_9 := blk_frozen BK116.out 9
         have p123 : 0 ≤ (x10_1 : Int) := of_decide_eq_true (by first | (with_reducible assumption) | assumption)
         have q123 : x10_1 < (l0.length : Int) := of_decide_eq_true (by first | (with_reducible assumption) | assumption)
         obtain ⟨ad123, e123, hx123_0, hx123_1⟩ := at_T27 HR0.out x10_1 p123 q123
         obtain rfl : ad122 = ad123 := (by injection e123)
         have hn123_0 : ad122.block ≠ gb117 := Nat.ne_of_lt (Nat.lt_of_lt_of_le (by have := World.block_lt_of_cell? _ _ hx123_0; first | rwa [add_block] at this | exact this) GW117.out)
         have hn123_1 : ad122.block ≠ gb117 := Nat.ne_of_lt (Nat.lt_of_lt_of_le (by have := World.block_lt_of_cell? _ _ hx123_0; first | rwa [add_block] at this | exact this) GW117.out)
         have hn123_2 : ad122.block ≠ gb114 := Nat.ne_of_lt (Nat.lt_of_lt_of_le (by have := World.block_lt_of_cell? _ _ hx123_0; first | rwa [add_block] at this | exact this) GW114.out)
         have hn123_3 : ad122.block ≠ gb115 := Nat.ne_of_lt (Nat.lt_of_lt_of_le (by have := World.block_lt_of_cell? _ _ hx123_0; first | rwa [add_block] at this | exact this) GW115.out)
         have hn123_4 : ad122.block ≠ gb116 := Nat.ne_of_lt (Nat.lt_of_lt_of_le (by have := World.block_lt_of_cell? _ _ hx123_0; first | rwa [add_block] at this | exact this) GW116.out)
         have hn123_5 : ad122.block ≠ gb116 := Nat.ne_of_lt (Nat.lt_of_lt_of_le (by have := World.block_lt_of_cell? _ _ hx123_0; first | rwa [add_block] at this | exact this) GW116.out)
         replace hx123_0 := (HB.out.cell (World.block_lt_of_cell? w _ hx123_0)).trans hx123_0
         replace hx123_1 := (HB.out.cell (World.block_lt_of_cell? w _ hx123_1)).trans hx123_1
         replace hx123_0 := (cell_far (p := ⟨gb117, 0, none⟩) (by first | (rw [add_block]; exact hn123_0) | (show (Addr.add _ _).block ≠ _; rw [add_block]; exact hn123_0) | exact hn123_0) (.bool ((rd_T27 l0 x10_1).f0))).trans hx123_0
         replace hx123_1 := (cell_far (p := ⟨gb117, 0, none⟩) (by first | (rw [add_block]; exact hn123_0) | (show (Addr.add _ _).block ≠ _; rw [add_block]; exact hn123_0) | exact hn123_0) (.bool ((rd_T27 l0 x10_1).f0))).trans hx123_1
         replace hx123_0 := (cell_far (p := ⟨gb117, 1, none⟩) (by first | (rw [add_block]; exact hn123_1) | (show (Addr.add _ _).block ≠ _; rw [add_block]; exact hn123_1) | exact hn123_1) (.bool ((rd_T27 l0 x10_1).f1))).trans hx123_0
         replace hx123_1 := (cell_far (p := ⟨gb117, 1, none⟩) (by first | (rw [add_block]; exact hn123_1) | (show (Addr.add _ _).block ≠ _; rw [add_block]; exact hn123_1) | exact hn123_1) (.bool ((rd_T27 l0 x10_1).f1))).trans hx123_1
         replace hx123_0 := (cell_far (p := ⟨gb114, 0, none⟩) (by first | (rw [add_block]; exact hn123_2) | (show (Addr.add _ _).block ≠ _; rw [add_block]; exact hn123_2) | exact hn123_2) (.int .i64 0)).trans hx123_0
         replace hx123_1 := (cell_far (p := ⟨gb114, 0, none⟩) (by first | (rw [add_block]; exact hn123_2) | (show (Addr.add _ _).block ≠ _; rw [add_block]; exact hn123_2) | exact hn123_2) (.int .i64 0)).trans hx123_1
         replace hx123_0 := (cell_far (p := ⟨gb115, 0, none⟩) (by first | (rw [add_block]; exact hn123_3) | (show (Addr.add _ _).block ≠ _; rw [add_block]; exact hn123_3) | exact hn123_3) (.int .i64 0)).trans hx123_0
         replace hx123_1 := (cell_far (p := ⟨gb115, 0, none⟩) (by first | (rw [add_block]; exact hn123_3) | (show (Addr.add _ _).block ≠ _; rw [add_block]; exact hn123_3) | exact hn123_3) (.int .i64 0)).trans hx123_1
         replace hx123_0 := (cell_far (p := ⟨gb116, 0, none⟩) (by first | (rw [add_block]; exact hn123_4) | (show (Addr.add _ _).block ≠ _; rw [add_block]; exact hn123_4) | exact hn123_4) (.int .i64 0)).trans hx123_0
         replace hx123_1 := (cell_far (p := ⟨gb116, 0, none⟩) (by first | (rw [add_block]; exact hn123_4) | (show (Addr.add _ _).block ≠ _; rw [add_block]; exact hn123_4) | exact hn123_4) (.int .i64 0)).trans hx123_1
         replace hx123_0 := (cell_far (p := ⟨gb116, 1, none⟩) (by first | (rw [add_block]; exact hn123_5) | (show (Addr.add _ _).block ≠ _; rw [add_block]; exact hn123_5) | exact hn123_5) (.int .i64 0)).trans hx123_0
         replace hx123_1 := (cell_far (p := ⟨gb116, 1, none⟩) (by first | (rw [add_block]; exact hn123_5) | (show (Addr.add _ _).block ≠ _; rw [add_block]; exact hn123_5) | exact hn123_5) (.int .i64 0)).trans hx123_1
         clear hn123_0
         clear hn123_1
         clear hn123_2
         clear hn123_3
         clear hn123_4
         clear hn123_5
         replace p123 := eq_true p123
         replace q123 := eq_true q123
         go_upto_if 59 with (fail)
         repeat (go_quiet (fail); go_upto_if 59 with (fail))
         go_cut [] (fun wc => ∃ (kq : Nat) (x115000_28 : Int) (x117000_28 : Int), Aside0 (ladderbacklaw09_CountRises.j2 kq l0 x7_1 x8_1 x9_1 x10_1 x11_9 x12_9 x115000_28 x115001_1 x115002_1 x115003_1 x115004_1 x115005_1 x115006_1 x115007_1 x115008_1 x115009_1 0 x116001_1 x116002_1 x116003_1 x116004_1 x116005_1 x116006_1 x116007_1 x116008_1 x116009_1 x117000_28 0 x117002_1 x117003_1 x117004_1 x117005_1 x117006_1 x117007_1 x117008_1 x117009_1 ((rd_T27 l0 x10_1).f0) ((rd_T27 l0 x10_1).f1) = some r) ∧ Aside0 (kq ≤ kj9) ∧ Aside0 (wc.heap[gb114]? = some (.cells #[.int .i64 x115000_28, .int .i64 x115001_1, .int .i64 x115002_1, .int .i64 x115003_1, .int .i64 x115004_1, .int .i64 x115005_1, .int .i64 x115006_1, .int .i64 x115007_1, .int .i64 x115008_1, .int .i64 x115009_1] 26 (0, 0))) ∧ Aside0 (wc.heap[gb115]? = some (.cells #[.int .i64 0, .int .i64 x116001_1, .int .i64 x116002_1, .int .i64 x116003_1, .int .i64 x116004_1, .int .i64 x116005_1, .int .i64 x116006_1, .int .i64 x116007_1, .int .i64 x116008_1, .int .i64 x116009_1] 26 (0, 0))) ∧ Aside0 (wc.heap[gb116]? = some (.cells #[.int .i64 x117000_28, .int .i64 0, .int .i64 x117002_1, .int .i64 x117003_1, .int .i64 x117004_1, .int .i64 x117005_1, .int .i64 x117006_1, .int .i64 x117007_1, .int .i64 x117008_1, .int .i64 x117009_1] 26 (0, 0))) ∧ Aside0 (wc.heap[gb117]? = some (.cells #[.bool ((rd_T27 l0 x10_1).f0), .bool ((rd_T27 l0 x10_1).f1)] 27 (0, 0))) ∧ Aside0 (Below w.heap.size w wc))
         case first =>
          have H := HC29.out
          clear HC29
          by_cases c40 : (rd_T27 l0 x10_1).f0 = true
          ·
           rw [if_pos c40] at H
           have c40b0 : (rd_T27 l0 x10_1).f0 = true := c40
           clear c40
           (first | rw [c40b0] | (simp only [i64_w, i32_w]; rw [c40b0]) | skip)
           have H' := Aside0.mk H
           clear H
           have hnb41 := NB114_115.out
           have hnc41 := NB115_114.out
           have hnb42 := NB114_116.out
           have hnc42 := NB116_114.out
           have hnb43 := NB114_117.out
           have hnc43 := NB117_114.out
           have hcz44_0 : wc.cell? ⟨gb114, 0, none⟩ = some (.int .i64 x115000_1) := (blk_cell BK114.out 0).trans rfl
           have hcz44_1 : wc.cell? ⟨gb114, 1, none⟩ = some (.int .i64 x115001_1) := (blk_cell BK114.out 1).trans rfl
           have hcz44_2 : wc.cell? ⟨gb114, 2, none⟩ = some (.int .i64 x115002_1) := (blk_cell BK114.out 2).trans rfl
           have hcz44_3 : wc.cell? ⟨gb114, 3, none⟩ = some (.int .i64 x115003_1) := (blk_cell BK114.out 3).trans rfl
           have hcz44_4 : wc.cell? ⟨gb114, 4, none⟩ = some (.int .i64 x115004_1) := (blk_cell BK114.out 4).trans rfl
           have hcz44_5 : wc.cell? ⟨gb114, 5, none⟩ = some (.int .i64 x115005_1) := (blk_cell BK114.out 5).trans rfl
           have hcz44_6 : wc.cell? ⟨gb114, 6, none⟩ = some (.int .i64 x115006_1) := (blk_cell BK114.out 6).trans rfl
           have hcz44_7 : wc.cell? ⟨gb114, 7, none⟩ = some (.int .i64 x115007_1) := (blk_cell BK114.out 7).trans rfl
           have hcz44_8 : wc.cell? ⟨gb114, 8, none⟩ = some (.int .i64 x115008_1) := (blk_cell BK114.out 8).trans rfl
           have hcz44_9 : wc.cell? ⟨gb114, 9, none⟩ = some (.int .i64 x115009_1) := (blk_cell BK114.out 9).trans rfl
           have hfz44_0 := blk_frozen BK114.out 0
           have hfz44_1 := blk_frozen BK114.out 1
           have hfz44_2 := blk_frozen BK114.out 2
           have hfz44_3 := blk_frozen BK114.out 3
           have hfz44_4 := blk_frozen BK114.out 4
           have hfz44_5 := blk_frozen BK114.out 5
           have hfz44_6 := blk_frozen BK114.out 6
           have hfz44_7 := blk_frozen BK114.out 7
           have hfz44_8 := blk_frozen BK114.out 8
           have hfz44_9 := blk_frozen BK114.out 9
           have hnb45 := NB116_115.out
           have hnc45 := NB115_116.out
           have hnb46 := NB116_117.out
           have hnc46 := NB117_116.out
           have hcz47_0 : wc.cell? ⟨gb116, 0, none⟩ = some (.int .i64 x117000_1) := (blk_cell BK116.out 0).trans rfl
           have hcz47_1 : wc.cell? ⟨gb116, 1, none⟩ = some (.int .i64 x117001_1) := (blk_cell BK116.out 1).trans rfl
           have hcz47_2 : wc.cell? ⟨gb116, 2, none⟩ = some (.int .i64 x117002_1) := (blk_cell BK116.out 2).trans rfl
           have hcz47_3 : wc.cell? ⟨gb116, 3, none⟩ = some (.int .i64 x117003_1) := (blk_cell BK116.out 3).trans rfl
           have hcz47_4 : wc.cell? ⟨gb116, 4, none⟩ = some (.int .i64 x117004_1) := (blk_cell BK116.out 4).trans rfl
           have hcz47_5 : wc.cell? ⟨gb116, 5, none⟩ = some (.int .i64 x117005_1) := (blk_cell BK116.out 5).trans rfl
           have hcz47_6 : wc.cell? ⟨gb116, 6, none⟩ = some (.int .i64 x117006_1) := (blk_cell BK116.out 6).trans rfl
           have hcz47_7 : wc.cell? ⟨gb116, 7, none⟩ = some (.int .i64 x117007_1) := (blk_cell BK116.out 7).trans rfl
           have hcz47_8 : wc.cell? ⟨gb116, 8, none⟩ = some (.int .i64 x117008_1) := (blk_cell BK116.out 8).trans rfl
           have hcz47_9 : wc.cell? ⟨gb116, 9, none⟩ = some (.int .i64 x117009_1) := (blk_cell BK116.out 9).trans rfl
           have hfz47_0 := blk_frozen BK116.out 0
           have hfz47_1 := blk_frozen BK116.out 1
           have hfz47_2 := blk_frozen BK116.out 2
           have hfz47_3 := blk_frozen BK116.out 3
           have hfz47_4 := blk_frozen BK116.out 4
           have hfz47_5 := blk_frozen BK116.out 5
           have hfz47_6 := blk_frozen BK116.out 6
           have hfz47_7 := blk_frozen BK116.out 7
           have hfz47_8 := blk_frozen BK116.out 8
           have hfz47_9 := blk_frozen BK116.out 9
           try go_wp2
           repeat (go_quiet (fail); try go_wp2)
           go_meet
           case rel => (try simp only [c40b0] at H' BK114 BK115 BK116 BK117 ⊢); exact ⟨_, (1), (1), H', ⟨by have := HK1.out; have := HJ9.out; first | omega | exact Nat.le_refl _⟩, ⟨by (with_reducible repeat (first | refine blk_drewN ?_ _ | refine blk_drew ?_ | refine blk_alloc ?_ _)); refine blk_far ?_ NB114_116.out _; (with_reducible repeat (first | refine blk_drewN ?_ _ | refine blk_drew ?_ | refine blk_alloc ?_ _)); refine blk_put (cs := #[.int .i64 0, .int .i64 x115001_1, .int .i64 x115002_1, .int .i64 x115003_1, .int .i64 x115004_1, .int .i64 x115005_1, .int .i64 x115006_1, .int .i64 x115007_1, .int .i64 x115008_1, .int .i64 x115009_1]) ?_ 0 _ rfl; (with_reducible repeat (first | refine blk_drewN ?_ _ | refine blk_drew ?_ | refine blk_alloc ?_ _)); refine blk_far ?_ NB114_116.out _; (with_reducible repeat (first | refine blk_drewN ?_ _ | refine blk_drew ?_ | refine blk_alloc ?_ _)); refine blk_far ?_ NB114_116.out _; (with_reducible repeat (first | refine blk_drewN ?_ _ | refine blk_drew ?_ | refine blk_alloc ?_ _)); refine blk_far ?_ NB114_115.out _; (with_reducible repeat (first | refine blk_drewN ?_ _ | refine blk_drew ?_ | refine blk_alloc ?_ _)); refine blk_put (cs := #[.int .i64 x115000_1, .int .i64 x115001_1, .int .i64 x115002_1, .int .i64 x115003_1, .int .i64 x115004_1, .int .i64 x115005_1, .int .i64 x115006_1, .int .i64 x115007_1, .int .i64 x115008_1, .int .i64 x115009_1]) ?_ 0 _ rfl; (with_reducible repeat (first | refine blk_drewN ?_ _ | refine blk_drew ?_ | refine blk_alloc ?_ _)); refine blk_far ?_ NB114_117.out _; (with_reducible repeat (first | refine blk_drewN ?_ _ | refine blk_drew ?_ | refine blk_alloc ?_ _)); refine blk_far ?_ NB114_117.out _; (with_reducible repeat (first | refine blk_drewN ?_ _ | refine blk_drew ?_ | refine blk_alloc ?_ _)); exact BK114.out⟩, ⟨by (with_reducible repeat (first | refine blk_drewN ?_ _ | refine blk_drew ?_ | refine blk_alloc ?_ _)); refine blk_far ?_ NB115_116.out _; (with_reducible repeat (first | refine blk_drewN ?_ _ | refine blk_drew ?_ | refine blk_alloc ?_ _)); refine blk_far ?_ NB115_114.out _; (with_reducible repeat (first | refine blk_drewN ?_ _ | refine blk_drew ?_ | refine blk_alloc ?_ _)); refine blk_far ?_ NB115_116.out _; (with_reducible repeat (first | refine blk_drewN ?_ _ | refine blk_drew ?_ | refine blk_alloc ?_ _)); refine blk_far ?_ NB115_116.out _; (with_reducible repeat (first | refine blk_drewN ?_ _ | refine blk_drew ?_ | refine blk_alloc ?_ _)); refine blk_put (cs := #[.int .i64 x116000_1, .int .i64 x116001_1, .int .i64 x116002_1, .int .i64 x116003_1, .int .i64 x116004_1, .int .i64 x116005_1, .int .i64 x116006_1, .int .i64 x116007_1, .int .i64 x116008_1, .int .i64 x116009_1]) ?_ 0 _ rfl; (with_reducible repeat (first | refine blk_drewN ?_ _ | refine blk_drew ?_ | refine blk_alloc ?_ _)); refine blk_far ?_ NB115_114.out _; (with_reducible repeat (first | refine blk_drewN ?_ _ | refine blk_drew ?_ | refine blk_alloc ?_ _)); refine blk_far ?_ NB115_117.out _; (with_reducible repeat (first | refine blk_drewN ?_ _ | refine blk_drew ?_ | refine blk_alloc ?_ _)); refine blk_far ?_ NB115_117.out _; (with_reducible repeat (first | refine blk_drewN ?_ _ | refine blk_drew ?_ | refine blk_alloc ?_ _)); exact BK115.out⟩, ⟨by (with_reducible repeat (first | refine blk_drewN ?_ _ | refine blk_drew ?_ | refine blk_alloc ?_ _)); refine blk_put (cs := #[.int .i64 0, .int .i64 0, .int .i64 x117002_1, .int .i64 x117003_1, .int .i64 x117004_1, .int .i64 x117005_1, .int .i64 x117006_1, .int .i64 x117007_1, .int .i64 x117008_1, .int .i64 x117009_1]) ?_ 0 _ rfl; (with_reducible repeat (first | refine blk_drewN ?_ _ | refine blk_drew ?_ | refine blk_alloc ?_ _)); refine blk_far ?_ NB116_114.out _; (with_reducible repeat (first | refine blk_drewN ?_ _ | refine blk_drew ?_ | refine blk_alloc ?_ _)); refine blk_put (cs := #[.int .i64 0, .int .i64 x117001_1, .int .i64 x117002_1, .int .i64 x117003_1, .int .i64 x117004_1, .int .i64 x117005_1, .int .i64 x117006_1, .int .i64 x117007_1, .int .i64 x117008_1, .int .i64 x117009_1]) ?_ 1 _ rfl; (with_reducible repeat (first | refine blk_drewN ?_ _ | refine blk_drew ?_ | refine blk_alloc ?_ _)); refine blk_put (cs := #[.int .i64 x117000_1, .int .i64 x117001_1, .int .i64 x117002_1, .int .i64 x117003_1, .int .i64 x117004_1, .int .i64 x117005_1, .int .i64 x117006_1, .int .i64 x117007_1, .int .i64 x117008_1, .int .i64 x117009_1]) ?_ 0 _ rfl; (with_reducible repeat (first | refine blk_drewN ?_ _ | refine blk_drew ?_ | refine blk_alloc ?_ _)); refine blk_far ?_ NB116_115.out _; (with_reducible repeat (first | refine blk_drewN ?_ _ | refine blk_drew ?_ | refine blk_alloc ?_ _)); refine blk_far ?_ NB116_114.out _; (with_reducible repeat (first | refine blk_drewN ?_ _ | refine blk_drew ?_ | refine blk_alloc ?_ _)); refine blk_far ?_ NB116_117.out _; (with_reducible repeat (first | refine blk_drewN ?_ _ | refine blk_drew ?_ | refine blk_alloc ?_ _)); refine blk_far ?_ NB116_117.out _; (with_reducible repeat (first | refine blk_drewN ?_ _ | refine blk_drew ?_ | refine blk_alloc ?_ _)); exact BK116.out⟩, ⟨by (with_reducible repeat (first | refine blk_drewN ?_ _ | refine blk_drew ?_ | refine blk_alloc ?_ _)); refine blk_far ?_ NB117_116.out _; (with_reducible repeat (first | refine blk_drewN ?_ _ | refine blk_drew ?_ | refine blk_alloc ?_ _)); refine blk_far ?_ NB117_114.out _; (with_reducible repeat (first | refine blk_drewN ?_ _ | refine blk_drew ?_ | refine blk_alloc ?_ _)); refine blk_far ?_ NB117_116.out _; (with_reducible repeat (first | refine blk_drewN ?_ _ | refine blk_drew ?_ | refine blk_alloc ?_ _)); refine blk_far ?_ NB117_116.out _; (with_reducible repeat (first | refine blk_drewN ?_ _ | refine blk_drew ?_ | refine blk_alloc ?_ _)); refine blk_far ?_ NB117_115.out _; (with_reducible repeat (first | refine blk_drewN ?_ _ | refine blk_drew ?_ | refine blk_alloc ?_ _)); refine blk_far ?_ NB117_114.out _; (with_reducible repeat (first | refine blk_drewN ?_ _ | refine blk_drew ?_ | refine blk_alloc ?_ _)); refine blk_put (cs := #[.bool true, .bool x118001_1]) ?_ 1 _ rfl; (with_reducible repeat (first | refine blk_drewN ?_ _ | refine blk_drew ?_ | refine blk_alloc ?_ _)); refine blk_put (cs := #[.bool x118000_1, .bool x118001_1]) ?_ 0 _ rfl; (with_reducible repeat (first | refine blk_drewN ?_ _ | refine blk_drew ?_ | refine blk_alloc ?_ _)); exact BK117.out⟩, ⟨by repeat (first | (with_reducible first | exact HB.out | apply below_alloc | apply pw_below_drewN | apply below_drew1 | refine below_set ?_ GE114.out | refine below_set ?_ GE115.out | refine below_set ?_ GE116.out | refine below_set ?_ GE117.out) | exact HB.out)⟩⟩
          ·
           rw [if_neg c40] at H
           have c40b0 : (rd_T27 l0 x10_1).f0 = false := by simpa using c40
           clear c40
           (first | rw [c40b0] | (simp only [i64_w, i32_w]; rw [c40b0]) | skip)
           have H' := Aside0.mk H
           clear H
           try go_wp2
           repeat (go_quiet (fail); try go_wp2)
           go_meet
           case rel => (try simp only [c40b0] at H' BK114 BK115 BK116 BK117 ⊢); exact ⟨_, (0), (0), H', ⟨by have := HK1.out; have := HJ9.out; first | omega | exact Nat.le_refl _⟩, ⟨by (with_reducible repeat (first | refine blk_drewN ?_ _ | refine blk_drew ?_ | refine blk_alloc ?_ _)); refine blk_far ?_ NB114_116.out _; (with_reducible repeat (first | refine blk_drewN ?_ _ | refine blk_drew ?_ | refine blk_alloc ?_ _)); refine blk_far ?_ NB114_116.out _; (with_reducible repeat (first | refine blk_drewN ?_ _ | refine blk_drew ?_ | refine blk_alloc ?_ _)); refine blk_far ?_ NB114_115.out _; (with_reducible repeat (first | refine blk_drewN ?_ _ | refine blk_drew ?_ | refine blk_alloc ?_ _)); refine blk_put (cs := #[.int .i64 x115000_1, .int .i64 x115001_1, .int .i64 x115002_1, .int .i64 x115003_1, .int .i64 x115004_1, .int .i64 x115005_1, .int .i64 x115006_1, .int .i64 x115007_1, .int .i64 x115008_1, .int .i64 x115009_1]) ?_ 0 _ rfl; (with_reducible repeat (first | refine blk_drewN ?_ _ | refine blk_drew ?_ | refine blk_alloc ?_ _)); refine blk_far ?_ NB114_117.out _; (with_reducible repeat (first | refine blk_drewN ?_ _ | refine blk_drew ?_ | refine blk_alloc ?_ _)); refine blk_far ?_ NB114_117.out _; (with_reducible repeat (first | refine blk_drewN ?_ _ | refine blk_drew ?_ | refine blk_alloc ?_ _)); exact BK114.out⟩, ⟨by (with_reducible repeat (first | refine blk_drewN ?_ _ | refine blk_drew ?_ | refine blk_alloc ?_ _)); refine blk_far ?_ NB115_116.out _; (with_reducible repeat (first | refine blk_drewN ?_ _ | refine blk_drew ?_ | refine blk_alloc ?_ _)); refine blk_far ?_ NB115_116.out _; (with_reducible repeat (first | refine blk_drewN ?_ _ | refine blk_drew ?_ | refine blk_alloc ?_ _)); refine blk_put (cs := #[.int .i64 x116000_1, .int .i64 x116001_1, .int .i64 x116002_1, .int .i64 x116003_1, .int .i64 x116004_1, .int .i64 x116005_1, .int .i64 x116006_1, .int .i64 x116007_1, .int .i64 x116008_1, .int .i64 x116009_1]) ?_ 0 _ rfl; (with_reducible repeat (first | refine blk_drewN ?_ _ | refine blk_drew ?_ | refine blk_alloc ?_ _)); refine blk_far ?_ NB115_114.out _; (with_reducible repeat (first | refine blk_drewN ?_ _ | refine blk_drew ?_ | refine blk_alloc ?_ _)); refine blk_far ?_ NB115_117.out _; (with_reducible repeat (first | refine blk_drewN ?_ _ | refine blk_drew ?_ | refine blk_alloc ?_ _)); refine blk_far ?_ NB115_117.out _; (with_reducible repeat (first | refine blk_drewN ?_ _ | refine blk_drew ?_ | refine blk_alloc ?_ _)); exact BK115.out⟩, ⟨by (with_reducible repeat (first | refine blk_drewN ?_ _ | refine blk_drew ?_ | refine blk_alloc ?_ _)); refine blk_put (cs := #[.int .i64 0, .int .i64 x117001_1, .int .i64 x117002_1, .int .i64 x117003_1, .int .i64 x117004_1, .int .i64 x117005_1, .int .i64 x117006_1, .int .i64 x117007_1, .int .i64 x117008_1, .int .i64 x117009_1]) ?_ 1 _ rfl; (with_reducible repeat (first | refine blk_drewN ?_ _ | refine blk_drew ?_ | refine blk_alloc ?_ _)); refine blk_put (cs := #[.int .i64 x117000_1, .int .i64 x117001_1, .int .i64 x117002_1, .int .i64 x117003_1, .int .i64 x117004_1, .int .i64 x117005_1, .int .i64 x117006_1, .int .i64 x117007_1, .int .i64 x117008_1, .int .i64 x117009_1]) ?_ 0 _ rfl; (with_reducible repeat (first | refine blk_drewN ?_ _ | refine blk_drew ?_ | refine blk_alloc ?_ _)); refine blk_far ?_ NB116_115.out _; (with_reducible repeat (first | refine blk_drewN ?_ _ | refine blk_drew ?_ | refine blk_alloc ?_ _)); refine blk_far ?_ NB116_114.out _; (with_reducible repeat (first | refine blk_drewN ?_ _ | refine blk_drew ?_ | refine blk_alloc ?_ _)); refine blk_far ?_ NB116_117.out _; (with_reducible repeat (first | refine blk_drewN ?_ _ | refine blk_drew ?_ | refine blk_alloc ?_ _)); refine blk_far ?_ NB116_117.out _; (with_reducible repeat (first | refine blk_drewN ?_ _ | refine blk_drew ?_ | refine blk_alloc ?_ _)); exact BK116.out⟩, ⟨by (with_reducible repeat (first | refine blk_drewN ?_ _ | refine blk_drew ?_ | refine blk_alloc ?_ _)); refine blk_far ?_ NB117_116.out _; (with_reducible repeat (first | refine blk_drewN ?_ _ | refine blk_drew ?_ | refine blk_alloc ?_ _)); refine blk_far ?_ NB117_116.out _; (with_reducible repeat (first | refine blk_drewN ?_ _ | refine blk_drew ?_ | refine blk_alloc ?_ _)); refine blk_far ?_ NB117_115.out _; (with_reducible repeat (first | refine blk_drewN ?_ _ | refine blk_drew ?_ | refine blk_alloc ?_ _)); refine blk_far ?_ NB117_114.out _; (with_reducible repeat (first | refine blk_drewN ?_ _ | refine blk_drew ?_ | refine blk_alloc ?_ _)); refine blk_put (cs := #[.bool false, .bool x118001_1]) ?_ 1 _ rfl; (with_reducible repeat (first | refine blk_drewN ?_ _ | refine blk_drew ?_ | refine blk_alloc ?_ _)); refine blk_put (cs := #[.bool x118000_1, .bool x118001_1]) ?_ 0 _ rfl; (with_reducible repeat (first | refine blk_drewN ?_ _ | refine blk_drew ?_ | refine blk_alloc ?_ _)); exact BK117.out⟩, ⟨by repeat (first | (with_reducible first | exact HB.out | apply below_alloc | apply pw_below_drewN | apply below_drew1 | refine below_set ?_ GE114.out | refine below_set ?_ GE115.out | refine below_set ?_ GE116.out | refine below_set ?_ GE117.out) | exact HB.out)⟩⟩
         case rest =>
          clear HC29
          (try clear c27); (try clear c27b0); (try clear c28); (try clear c28b0); (try clear hcz33_0); (try clear hcz33_1); (try clear hcz36_0); (try clear hcz36_1); (try clear hcz36_2); (try clear hcz36_3); (try clear hcz36_4); (try clear hcz36_5); (try clear hcz36_6); (try clear hcz36_7); (try clear hcz36_8); (try clear hcz36_9); (try clear hcz38_0); (try clear hcz38_1); (try clear hcz38_2); (try clear hcz38_3); (try clear hcz38_4); (try clear hcz38_5); (try clear hcz38_6); (try clear hcz38_7); (try clear hcz38_8); (try clear hcz38_9); (try clear hcz39_0); (try clear hcz39_1); (try clear hcz39_2); (try clear hcz39_3); (try clear hcz39_4); (try clear hcz39_5); (try clear hcz39_6); (try clear hcz39_7); (try clear hcz39_8); (try clear hcz39_9); (try clear hfz33_0); (try clear hfz33_1); (try clear hfz36_0); (try clear hfz36_1); (try clear hfz36_2); (try clear hfz36_3); (try clear hfz36_4); (try clear hfz36_5); (try clear hfz36_6); (try clear hfz36_7); (try clear hfz36_8); (try clear hfz36_9); (try clear hfz38_0); (try clear hfz38_1); (try clear hfz38_2); (try clear hfz38_3); (try clear hfz38_4); (try clear hfz38_5); (try clear hfz38_6); (try clear hfz38_7); (try clear hfz38_8); (try clear hfz38_9); (try clear hfz39_0); (try clear hfz39_1); (try clear hfz39_2); (try clear hfz39_3); (try clear hfz39_4); (try clear hfz39_5); (try clear hfz39_6); (try clear hfz39_7); (try clear hfz39_8); (try clear hfz39_9); (try clear hx122_0); (try clear hx122_1); (try clear hx123_0); (try clear hx123_1); (try clear p122); (try clear p123); (try clear q122); (try clear q123)
          obtain ⟨kq, x115000_28, x117000_28, HA, HJ28, BK114, BK115, BK116, BK117, HB⟩ := hcut
          cases kq with
          | zero => exact absurd HA.out (by simp [ladderbacklaw09_CountRises.j2])
          | succ kj28 =>
           have H := HA.out
           clear HA
           simp only [ladderbacklaw09_CountRises.j2] at H
           by_cases c48 : 0 ≤ x10_1
           ·
            rw [if_pos c48] at H
            have c48b0 : decide (0 ≤ x10_1) = true := decide_eq_true c48
            clear c48
            by_cases c49 : x10_1 < (l0.length : Int)
            ·
             rw [if_pos c49] at H
             have c49b0 : decide (x10_1 < (l0.length : Int)) = true := decide_eq_true c49
             clear c49
             have HC50 := Aside0.mk H
             clear H
             have p124 : 0 ≤ (x10_1 : Int) := of_decide_eq_true (by first | (with_reducible assumption) | assumption)
             have q124 : x10_1 < (l0.length : Int) := of_decide_eq_true (by first | (with_reducible assumption) | assumption)
             obtain ⟨ad124, e124, hx124_0, hx124_1⟩ := at_T27 HR0.out x10_1 p124 q124
             obtain rfl : ad122 = ad124 := (by injection e124)
             replace hx124_0 := (HB.out.cell (World.block_lt_of_cell? w _ hx124_0)).trans hx124_0
             replace hx124_1 := (HB.out.cell (World.block_lt_of_cell? w _ hx124_1)).trans hx124_1
             replace p124 := eq_true p124
             replace q124 := eq_true q124
             go_upto_if 68 with (fail)
             repeat (go_quiet (fail); go_upto_if 68 with (fail))
             go_cut [] (fun wc => ∃ (kq : Nat) (x116000_49 : Int) (x117001_49 : Int), Aside0 (ladderbacklaw09_CountRises.j3 kq l0 x7_1 x8_1 x9_1 x10_1 x11_9 x12_9 x115000_28 x115001_1 x115002_1 x115003_1 x115004_1 x115005_1 x115006_1 x115007_1 x115008_1 x115009_1 x116000_49 x116001_1 x116002_1 x116003_1 x116004_1 x116005_1 x116006_1 x116007_1 x116008_1 x116009_1 x117000_28 x117001_49 x117002_1 x117003_1 x117004_1 x117005_1 x117006_1 x117007_1 x117008_1 x117009_1 ((rd_T27 l0 x10_1).f0) ((rd_T27 l0 x10_1).f1) = some r) ∧ Aside0 (kq ≤ kj28) ∧ Aside0 (wc.heap[gb114]? = some (.cells #[.int .i64 x115000_28, .int .i64 x115001_1, .int .i64 x115002_1, .int .i64 x115003_1, .int .i64 x115004_1, .int .i64 x115005_1, .int .i64 x115006_1, .int .i64 x115007_1, .int .i64 x115008_1, .int .i64 x115009_1] 26 (0, 0))) ∧ Aside0 (wc.heap[gb115]? = some (.cells #[.int .i64 x116000_49, .int .i64 x116001_1, .int .i64 x116002_1, .int .i64 x116003_1, .int .i64 x116004_1, .int .i64 x116005_1, .int .i64 x116006_1, .int .i64 x116007_1, .int .i64 x116008_1, .int .i64 x116009_1] 26 (0, 0))) ∧ Aside0 (wc.heap[gb116]? = some (.cells #[.int .i64 x117000_28, .int .i64 x117001_49, .int .i64 x117002_1, .int .i64 x117003_1, .int .i64 x117004_1, .int .i64 x117005_1, .int .i64 x117006_1, .int .i64 x117007_1, .int .i64 x117008_1, .int .i64 x117009_1] 26 (0, 0))) ∧ Aside0 (wc.heap[gb117]? = some (.cells #[.bool ((rd_T27 l0 x10_1).f0), .bool ((rd_T27 l0 x10_1).f1)] 27 (0, 0))) ∧ Aside0 (Below w.heap.size w wc))
             case first =>
              have H := HC50.out
              clear HC50
              by_cases c51 : (rd_T27 l0 x10_1).f1 = true
              ·
               rw [if_pos c51] at H
               have c51b0 : (rd_T27 l0 x10_1).f1 = true := c51
               clear c51
               (first | rw [c51b0] | (simp only [i64_w, i32_w]; rw [c51b0]) | skip)
               have H' := Aside0.mk H
               clear H
               have hnb52 := NB115_114.out
               have hnc52 := NB114_115.out
               have hnb53 := NB115_116.out
               have hnc53 := NB116_115.out
               have hnb54 := NB115_117.out
               have hnc54 := NB117_115.out
               have hcz55_0 : wc.cell? ⟨gb115, 0, none⟩ = some (.int .i64 0) := (blk_cell BK115.out 0).trans rfl
               have hcz55_1 : wc.cell? ⟨gb115, 1, none⟩ = some (.int .i64 x116001_1) := (blk_cell BK115.out 1).trans rfl
               have hcz55_2 : wc.cell? ⟨gb115, 2, none⟩ = some (.int .i64 x116002_1) := (blk_cell BK115.out 2).trans rfl
               have hcz55_3 : wc.cell? ⟨gb115, 3, none⟩ = some (.int .i64 x116003_1) := (blk_cell BK115.out 3).trans rfl
               have hcz55_4 : wc.cell? ⟨gb115, 4, none⟩ = some (.int .i64 x116004_1) := (blk_cell BK115.out 4).trans rfl
               have hcz55_5 : wc.cell? ⟨gb115, 5, none⟩ = some (.int .i64 x116005_1) := (blk_cell BK115.out 5).trans rfl
               have hcz55_6 : wc.cell? ⟨gb115, 6, none⟩ = some (.int .i64 x116006_1) := (blk_cell BK115.out 6).trans rfl
               have hcz55_7 : wc.cell? ⟨gb115, 7, none⟩ = some (.int .i64 x116007_1) := (blk_cell BK115.out 7).trans rfl
               have hcz55_8 : wc.cell? ⟨gb115, 8, none⟩ = some (.int .i64 x116008_1) := (blk_cell BK115.out 8).trans rfl
               have hcz55_9 : wc.cell? ⟨gb115, 9, none⟩ = some (.int .i64 x116009_1) := (blk_cell BK115.out 9).trans rfl
               have hfz55_0 := blk_frozen BK115.out 0
               have hfz55_1 := blk_frozen BK115.out 1
               have hfz55_2 := blk_frozen BK115.out 2
               have hfz55_3 := blk_frozen BK115.out 3
               have hfz55_4 := blk_frozen BK115.out 4
               have hfz55_5 := blk_frozen BK115.out 5
               have hfz55_6 := blk_frozen BK115.out 6
               have hfz55_7 := blk_frozen BK115.out 7
               have hfz55_8 := blk_frozen BK115.out 8
               have hfz55_9 := blk_frozen BK115.out 9
               have hnb56 := NB116_114.out
               have hnc56 := NB114_116.out
               have hnb57 := NB116_117.out
               have hnc57 := NB117_116.out
               have hcz58_0 : wc.cell? ⟨gb116, 0, none⟩ = some (.int .i64 x117000_28) := (blk_cell BK116.out 0).trans rfl
               have hcz58_1 : wc.cell? ⟨gb116, 1, none⟩ = some (.int .i64 0) := (blk_cell BK116.out 1).trans rfl
               have hcz58_2 : wc.cell? ⟨gb116, 2, none⟩ = some (.int .i64 x117002_1) := (blk_cell BK116.out 2).trans rfl
               have hcz58_3 : wc.cell? ⟨gb116, 3, none⟩ = some (.int .i64 x117003_1) := (blk_cell BK116.out 3).trans rfl
               have hcz58_4 : wc.cell? ⟨gb116, 4, none⟩ = some (.int .i64 x117004_1) := (blk_cell BK116.out 4).trans rfl
               have hcz58_5 : wc.cell? ⟨gb116, 5, none⟩ = some (.int .i64 x117005_1) := (blk_cell BK116.out 5).trans rfl
               have hcz58_6 : wc.cell? ⟨gb116, 6, none⟩ = some (.int .i64 x117006_1) := (blk_cell BK116.out 6).trans rfl
               have hcz58_7 : wc.cell? ⟨gb116, 7, none⟩ = some (.int .i64 x117007_1) := (blk_cell BK116.out 7).trans rfl
               have hcz58_8 : wc.cell? ⟨gb116, 8, none⟩ = some (.int .i64 x117008_1) := (blk_cell BK116.out 8).trans rfl
               have hcz58_9 : wc.cell? ⟨gb116, 9, none⟩ = some (.int .i64 x117009_1) := (blk_cell BK116.out 9).trans rfl
               have hfz58_0 := blk_frozen BK116.out 0
               have hfz58_1 := blk_frozen BK116.out 1
               have hfz58_2 := blk_frozen BK116.out 2
               have hfz58_3 := blk_frozen BK116.out 3
               have hfz58_4 := blk_frozen BK116.out 4
               have hfz58_5 := blk_frozen BK116.out 5
               have hfz58_6 := blk_frozen BK116.out 6
               have hfz58_7 := blk_frozen BK116.out 7
               have hfz58_8 := blk_frozen BK116.out 8
               have hfz58_9 := blk_frozen BK116.out 9
               try go_wp2
               repeat (go_quiet (fail); try go_wp2)
               go_meet
               case rel => (try simp only [c51b0] at H' BK114 BK115 BK116 BK117 ⊢); exact ⟨_, (1), (1), H', ⟨by have := HK1.out; have := HJ9.out; have := HJ28.out; first | omega | exact Nat.le_refl _⟩, ⟨by (with_reducible repeat (first | refine blk_drewN ?_ _ | refine blk_drew ?_ | refine blk_alloc ?_ _)); refine blk_far ?_ NB114_116.out _; (with_reducible repeat (first | refine blk_drewN ?_ _ | refine blk_drew ?_ | refine blk_alloc ?_ _)); refine blk_far ?_ NB114_115.out _; (with_reducible repeat (first | refine blk_drewN ?_ _ | refine blk_drew ?_ | refine blk_alloc ?_ _)); exact BK114.out⟩, ⟨by (with_reducible repeat (first | refine blk_drewN ?_ _ | refine blk_drew ?_ | refine blk_alloc ?_ _)); refine blk_far ?_ NB115_116.out _; (with_reducible repeat (first | refine blk_drewN ?_ _ | refine blk_drew ?_ | refine blk_alloc ?_ _)); refine blk_put (cs := #[.int .i64 0, .int .i64 x116001_1, .int .i64 x116002_1, .int .i64 x116003_1, .int .i64 x116004_1, .int .i64 x116005_1, .int .i64 x116006_1, .int .i64 x116007_1, .int .i64 x116008_1, .int .i64 x116009_1]) ?_ 0 _ rfl; (with_reducible repeat (first | refine blk_drewN ?_ _ | refine blk_drew ?_ | refine blk_alloc ?_ _)); exact BK115.out⟩, ⟨by (with_reducible repeat (first | refine blk_drewN ?_ _ | refine blk_drew ?_ | refine blk_alloc ?_ _)); refine blk_put (cs := #[.int .i64 x117000_28, .int .i64 0, .int .i64 x117002_1, .int .i64 x117003_1, .int .i64 x117004_1, .int .i64 x117005_1, .int .i64 x117006_1, .int .i64 x117007_1, .int .i64 x117008_1, .int .i64 x117009_1]) ?_ 1 _ rfl; (with_reducible repeat (first | refine blk_drewN ?_ _ | refine blk_drew ?_ | refine blk_alloc ?_ _)); refine blk_far ?_ NB116_115.out _; (with_reducible repeat (first | refine blk_drewN ?_ _ | refine blk_drew ?_ | refine blk_alloc ?_ _)); exact BK116.out⟩, ⟨by (with_reducible repeat (first | refine blk_drewN ?_ _ | refine blk_drew ?_ | refine blk_alloc ?_ _)); refine blk_far ?_ NB117_116.out _; (with_reducible repeat (first | refine blk_drewN ?_ _ | refine blk_drew ?_ | refine blk_alloc ?_ _)); refine blk_far ?_ NB117_115.out _; (with_reducible repeat (first | refine blk_drewN ?_ _ | refine blk_drew ?_ | refine blk_alloc ?_ _)); exact BK117.out⟩, ⟨by repeat (first | (with_reducible first | exact HB.out | apply below_alloc | apply pw_below_drewN | apply below_drew1 | refine below_set ?_ GE114.out | refine below_set ?_ GE115.out | refine below_set ?_ GE116.out | refine below_set ?_ GE117.out) | exact HB.out)⟩⟩
              ·
               rw [if_neg c51] at H
               have c51b0 : (rd_T27 l0 x10_1).f1 = false := by simpa using c51
               clear c51
               (first | rw [c51b0] | (simp only [i64_w, i32_w]; rw [c51b0]) | skip)
               have H' := Aside0.mk H
               clear H
               try go_wp2
               repeat (go_quiet (fail); try go_wp2)
               go_meet
               case rel => (try simp only [c51b0] at H' BK114 BK115 BK116 BK117 ⊢); exact ⟨_, (0), (0), H', ⟨by have := HK1.out; have := HJ9.out; have := HJ28.out; first | omega | exact Nat.le_refl _⟩, ⟨by (with_reducible repeat (first | refine blk_drewN ?_ _ | refine blk_drew ?_ | refine blk_alloc ?_ _)); exact BK114.out⟩, ⟨by (with_reducible repeat (first | refine blk_drewN ?_ _ | refine blk_drew ?_ | refine blk_alloc ?_ _)); exact BK115.out⟩, ⟨by (with_reducible repeat (first | refine blk_drewN ?_ _ | refine blk_drew ?_ | refine blk_alloc ?_ _)); exact BK116.out⟩, ⟨by (with_reducible repeat (first | refine blk_drewN ?_ _ | refine blk_drew ?_ | refine blk_alloc ?_ _)); exact BK117.out⟩, ⟨by repeat (first | (with_reducible first | exact HB.out | apply below_alloc | apply pw_below_drewN | apply below_drew1 | refine below_set ?_ GE114.out | refine below_set ?_ GE115.out | refine below_set ?_ GE116.out | refine below_set ?_ GE117.out) | exact HB.out)⟩⟩
             case rest =>
              clear HC50
              (try clear c48); (try clear c48b0); (try clear c49); (try clear c49b0); (try clear hx124_0); (try clear hx124_1); (try clear p124); (try clear q124)
              obtain ⟨kq, x116000_49, x117001_49, HA, HJ49, BK114, BK115, BK116, BK117, HB⟩ := hcut
              cases kq with
              | zero => exact absurd HA.out (by simp [ladderbacklaw09_CountRises.j3])
              | succ kj49 =>
               have H := HA.out
               clear HA
               simp only [ladderbacklaw09_CountRises.j3] at H
               replace H := Option.bind_eq_some_iff.mp H
               obtain ⟨⟨t125, t126, t127, t128, t129, t130, t131, t132, t133, t134⟩, A590, H⟩ := H
               replace H : ((count_Step.f 5 x116000_49 x116001_1 x116002_1 x116003_1 x116004_1 x116005_1 x116006_1 x116007_1 x116008_1 x116009_1).bind fun bt135 => ((count_Step.f 6 x117000_28 x117001_49 x117002_1 x117003_1 x117004_1 x117005_1 x117006_1 x117007_1 x117008_1 x117009_1).bind fun bt145 => (if x11_9 = true then (ladderbacklaw09_CountRises.j4 kj49 l0 (wrap64 (x7_1 + 1)) x8_1 x9_1 x10_1 x11_9 x12_9 t125 t126 t127 t128 t129 t130 t131 t132 t133 t134 bt135.1 bt135.2.1 bt135.2.2.1 bt135.2.2.2.1 bt135.2.2.2.2.1 bt135.2.2.2.2.2.1 bt135.2.2.2.2.2.2.1 bt135.2.2.2.2.2.2.2.1 bt135.2.2.2.2.2.2.2.2.1 bt135.2.2.2.2.2.2.2.2.2 bt145.1 bt145.2.1 bt145.2.2.1 bt145.2.2.2.1 bt145.2.2.2.2.1 bt145.2.2.2.2.2.1 bt145.2.2.2.2.2.2.1 bt145.2.2.2.2.2.2.2.1 bt145.2.2.2.2.2.2.2.2.1 bt145.2.2.2.2.2.2.2.2.2 ((rd_T27 l0 x10_1).f0) ((rd_T27 l0 x10_1).f1)) else (ladderbacklaw09_CountRises.j4 kj49 l0 x7_1 x8_1 x9_1 x10_1 x11_9 x12_9 t125 t126 t127 t128 t129 t130 t131 t132 t133 t134 bt135.1 bt135.2.1 bt135.2.2.1 bt135.2.2.2.1 bt135.2.2.2.2.1 bt135.2.2.2.2.2.1 bt135.2.2.2.2.2.2.1 bt135.2.2.2.2.2.2.2.1 bt135.2.2.2.2.2.2.2.2.1 bt135.2.2.2.2.2.2.2.2.2 bt145.1 bt145.2.1 bt145.2.2.1 bt145.2.2.2.1 bt145.2.2.2.2.1 bt145.2.2.2.2.2.1 bt145.2.2.2.2.2.2.1 bt145.2.2.2.2.2.2.2.1 bt145.2.2.2.2.2.2.2.2.1 bt145.2.2.2.2.2.2.2.2.2 ((rd_T27 l0 x10_1).f0) ((rd_T27 l0 x10_1).f1))))) = some r := H
               have A59 := Aside0.mk A590
               clear A590
               replace H := Option.bind_eq_some_iff.mp H
               obtain ⟨⟨t135, t136, t137, t138, t139, t140, t141, t142, t143, t144⟩, A600, H⟩ := H
               replace H : ((count_Step.f 6 x117000_28 x117001_49 x117002_1 x117003_1 x117004_1 x117005_1 x117006_1 x117007_1 x117008_1 x117009_1).bind fun bt145 => (if x11_9 = true then (ladderbacklaw09_CountRises.j4 kj49 l0 (wrap64 (x7_1 + 1)) x8_1 x9_1 x10_1 x11_9 x12_9 t125 t126 t127 t128 t129 t130 t131 t132 t133 t134 t135 t136 t137 t138 t139 t140 t141 t142 t143 t144 bt145.1 bt145.2.1 bt145.2.2.1 bt145.2.2.2.1 bt145.2.2.2.2.1 bt145.2.2.2.2.2.1 bt145.2.2.2.2.2.2.1 bt145.2.2.2.2.2.2.2.1 bt145.2.2.2.2.2.2.2.2.1 bt145.2.2.2.2.2.2.2.2.2 ((rd_T27 l0 x10_1).f0) ((rd_T27 l0 x10_1).f1)) else (ladderbacklaw09_CountRises.j4 kj49 l0 x7_1 x8_1 x9_1 x10_1 x11_9 x12_9 t125 t126 t127 t128 t129 t130 t131 t132 t133 t134 t135 t136 t137 t138 t139 t140 t141 t142 t143 t144 bt145.1 bt145.2.1 bt145.2.2.1 bt145.2.2.2.1 bt145.2.2.2.2.1 bt145.2.2.2.2.2.1 bt145.2.2.2.2.2.2.1 bt145.2.2.2.2.2.2.2.1 bt145.2.2.2.2.2.2.2.2.1 bt145.2.2.2.2.2.2.2.2.2 ((rd_T27 l0 x10_1).f0) ((rd_T27 l0 x10_1).f1)))) = some r := H
               have A60 := Aside0.mk A600
               clear A600
               replace H := Option.bind_eq_some_iff.mp H
               obtain ⟨⟨t145, t146, t147, t148, t149, t150, t151, t152, t153, t154⟩, A610, H⟩ := H
               replace H : (if x11_9 = true then (ladderbacklaw09_CountRises.j4 kj49 l0 (wrap64 (x7_1 + 1)) x8_1 x9_1 x10_1 x11_9 x12_9 t125 t126 t127 t128 t129 t130 t131 t132 t133 t134 t135 t136 t137 t138 t139 t140 t141 t142 t143 t144 t145 t146 t147 t148 t149 t150 t151 t152 t153 t154 ((rd_T27 l0 x10_1).f0) ((rd_T27 l0 x10_1).f1)) else (ladderbacklaw09_CountRises.j4 kj49 l0 x7_1 x8_1 x9_1 x10_1 x11_9 x12_9 t125 t126 t127 t128 t129 t130 t131 t132 t133 t134 t135 t136 t137 t138 t139 t140 t141 t142 t143 t144 t145 t146 t147 t148 t149 t150 t151 t152 t153 t154 ((rd_T27 l0 x10_1).f0) ((rd_T27 l0 x10_1).f1))) = some r := H
               have A61 := Aside0.mk A610
               clear A610
               have HC62 := Aside0.mk H
               clear H
               try go_wp2
               have n0_ := Aside0.mk (blk_drew BK114.out)
               have n1_ := Aside0.mk (blk_drew BK115.out)
               have n2_ := Aside0.mk (blk_drew BK116.out)
               have n3_ := Aside0.mk (blk_drew BK117.out)
               have n4_ := Aside0.mk (below_drew1 HB.out)
               clear BK114
               clear BK115
               clear BK116
               clear BK117
               clear HB
               have BK114 := n0_
               have BK115 := n1_
               have BK116 := n2_
               have BK117 := n3_
               have HB := n4_
               clear n0_ n1_ n2_ n3_ n4_
               refine start_ (n := 9) (S := fun w' => w'.cell? ⟨gb114, 0, none⟩ = some (.int .i64 x115000_28) ∧ w'.cell? ⟨gb114, 1, none⟩ = some (.int .i64 x115001_1) ∧ w'.cell? ⟨gb114, 2, none⟩ = some (.int .i64 x115002_1) ∧ w'.cell? ⟨gb114, 3, none⟩ = some (.int .i64 x115003_1) ∧ w'.cell? ⟨gb114, 4, none⟩ = some (.int .i64 x115004_1) ∧ w'.cell? ⟨gb114, 5, none⟩ = some (.int .i64 x115005_1) ∧ w'.cell? ⟨gb114, 6, none⟩ = some (.int .i64 x115006_1) ∧ w'.cell? ⟨gb114, 7, none⟩ = some (.int .i64 x115007_1) ∧ w'.cell? ⟨gb114, 8, none⟩ = some (.int .i64 x115008_1) ∧ w'.cell? ⟨gb114, 9, none⟩ = some (.int .i64 x115009_1) ∧ w'.cell? ⟨gb115, 0, none⟩ = some (.int .i64 x116000_49) ∧ w'.cell? ⟨gb115, 1, none⟩ = some (.int .i64 x116001_1) ∧ w'.cell? ⟨gb115, 2, none⟩ = some (.int .i64 x116002_1) ∧ w'.cell? ⟨gb115, 3, none⟩ = some (.int .i64 x116003_1) ∧ w'.cell? ⟨gb115, 4, none⟩ = some (.int .i64 x116004_1) ∧ w'.cell? ⟨gb115, 5, none⟩ = some (.int .i64 x116005_1) ∧ w'.cell? ⟨gb115, 6, none⟩ = some (.int .i64 x116006_1) ∧ w'.cell? ⟨gb115, 7, none⟩ = some (.int .i64 x116007_1) ∧ w'.cell? ⟨gb115, 8, none⟩ = some (.int .i64 x116008_1) ∧ w'.cell? ⟨gb115, 9, none⟩ = some (.int .i64 x116009_1) ∧ w'.cell? ⟨gb116, 0, none⟩ = some (.int .i64 x117000_28) ∧ w'.cell? ⟨gb116, 1, none⟩ = some (.int .i64 x117001_49) ∧ w'.cell? ⟨gb116, 2, none⟩ = some (.int .i64 x117002_1) ∧ w'.cell? ⟨gb116, 3, none⟩ = some (.int .i64 x117003_1) ∧ w'.cell? ⟨gb116, 4, none⟩ = some (.int .i64 x117004_1) ∧ w'.cell? ⟨gb116, 5, none⟩ = some (.int .i64 x117005_1) ∧ w'.cell? ⟨gb116, 6, none⟩ = some (.int .i64 x117006_1) ∧ w'.cell? ⟨gb116, 7, none⟩ = some (.int .i64 x117007_1) ∧ w'.cell? ⟨gb116, 8, none⟩ = some (.int .i64 x117008_1) ∧ w'.cell? ⟨gb116, 9, none⟩ = some (.int .i64 x117009_1)) (ds := [6, 7, 8]) #[Ff,Ff,Ff,Ff,Ff,Ff,Ff,Ff,Ff] (by kernel_rfl) rfl rfl ⟨(blk_cell BK114.out 0).trans rfl, (blk_cell BK114.out 1).trans rfl, (blk_cell BK114.out 2).trans rfl, (blk_cell BK114.out 3).trans rfl, (blk_cell BK114.out 4).trans rfl, (blk_cell BK114.out 5).trans rfl, (blk_cell BK114.out 6).trans rfl, (blk_cell BK114.out 7).trans rfl, (blk_cell BK114.out 8).trans rfl, (blk_cell BK114.out 9).trans rfl, (blk_cell BK115.out 0).trans rfl, (blk_cell BK115.out 1).trans rfl, (blk_cell BK115.out 2).trans rfl, (blk_cell BK115.out 3).trans rfl, (blk_cell BK115.out 4).trans rfl, (blk_cell BK115.out 5).trans rfl, (blk_cell BK115.out 6).trans rfl, (blk_cell BK115.out 7).trans rfl, (blk_cell BK115.out 8).trans rfl, (blk_cell BK115.out 9).trans rfl, (blk_cell BK116.out 0).trans rfl, (blk_cell BK116.out 1).trans rfl, (blk_cell BK116.out 2).trans rfl, (blk_cell BK116.out 3).trans rfl, (blk_cell BK116.out 4).trans rfl, (blk_cell BK116.out 5).trans rfl, (blk_cell BK116.out 6).trans rfl, (blk_cell BK116.out 7).trans rfl, (blk_cell BK116.out 8).trans rfl, (blk_cell BK116.out 9).trans rfl⟩ (fun hHeld => ?_); refine with_tabW ladderbacklaw09_CountRises.tab21 ladderbacklaw09_CountRises.bits21 (fun HT_ HW_ => ?_)
               generalize wc.drew = w63 at BK114 BK115 BK116 BK117 HB hHeld ⊢
               refine take_ (i := 0) (N := some 73) (v := ?_) (a' := ?_) #[Tt,Ff,Ff,Ff,Ff,Ff,Ff,Ff,Ff] rfl rfl (take_ofW HT_.out HW_.out (by kernel_rfl)) (fun _ _ _ h => h) (Or.inl ⟨by rfl, ?_⟩) hHeld ?_ ?_
               rotate_left
               ·
                rintro w' ⟨s0, s1, s2, s3, s4, s5, s6, s7, s8, s9, s10, s11, s12, s13, s14, s15, s16, s17, s18, s19, s20, s21, s22, s23, s24, s25, s26, s27, s28, s29⟩
                go_simp
                with_reducible rfl
               rotate_left
               ·
                simp only [Act.put, List.setIfInBounds_toArray, List.set_cons_zero, List.set_cons_succ, i64_w, i32_w]
                rfl
               refine take_ (i := 2) (N := some 75) (v := ?_) (a' := ?_) #[Tt,Ff,Tt,Ff,Ff,Ff,Ff,Ff,Ff] rfl rfl (take_ofW HT_.out HW_.out (by kernel_rfl)) (fun _ _ _ h => h) (Or.inl ⟨by rfl, ?_⟩) hHeld ?_ ?_
               rotate_left
               ·
                rintro w' ⟨s0, s1, s2, s3, s4, s5, s6, s7, s8, s9, s10, s11, s12, s13, s14, s15, s16, s17, s18, s19, s20, s21, s22, s23, s24, s25, s26, s27, s28, s29⟩
                go_simp
                with_reducible rfl
               rotate_left
               ·
                simp only [Act.put, List.setIfInBounds_toArray, List.set_cons_zero, List.set_cons_succ, i64_w, i32_w]
                rfl
               refine take_ (i := 4) (N := some 77) (v := ?_) (a' := ?_) #[Tt,Ff,Tt,Ff,Tt,Ff,Ff,Ff,Ff] rfl rfl (take_ofW HT_.out HW_.out (by kernel_rfl)) (fun _ _ _ h => h) (Or.inl ⟨by rfl, ?_⟩) hHeld ?_ ?_
               rotate_left
               ·
                rintro w' ⟨s0, s1, s2, s3, s4, s5, s6, s7, s8, s9, s10, s11, s12, s13, s14, s15, s16, s17, s18, s19, s20, s21, s22, s23, s24, s25, s26, s27, s28, s29⟩
                go_simp
                with_reducible rfl
               rotate_left
               ·
                simp only [Act.put, List.setIfInBounds_toArray, List.set_cons_zero, List.set_cons_succ, i64_w, i32_w]
                rfl
               refine one_ (i := 1) (N := some 74) #[Tt,Tt,Tt,Ff,Tt,Ff,Ff,Ff,Ff] rfl rfl (one_of HT_.out (by kernel_rfl)) (by decide) (fun K hK => ?_)
               refine goes_ Try.func10 (by kernel_rfl) rfl #[.int .i64 4, .agg #[.int .i64 x115000_28, .int .i64 x115001_1, .int .i64 x115002_1, .int .i64 x115003_1, .int .i64 x115004_1, .int .i64 x115005_1, .int .i64 x115006_1, .int .i64 x115007_1, .int .i64 x115008_1, .int .i64 x115009_1]] (by rfl) rfl rfl (by (try simp only [List.map_toArray, List.map_cons, List.map_nil]); first | done | rfl | (simp only [List.length_drop, List.length_take]; rfl)) ?_
               with_reducible refine (count_Step.calls 4 x115000_28 x115001_1 x115002_1 x115003_1 x115004_1 x115005_1 x115006_1 x115007_1 x115008_1 x115009_1 t125 t126 t127 t128 t129 t130 t131 t132 t133 t134 _ A59.out).mono ?_
               rintro e w64 ⟨rfl, hb⟩
               refine ⟨_, rfl, ?_⟩
               have n0_ := Aside0.mk (blk_below (g := gb114) (o := .cells #[.int .i64 x115000_28, .int .i64 x115001_1, .int .i64 x115002_1, .int .i64 x115003_1, .int .i64 x115004_1, .int .i64 x115005_1, .int .i64 x115006_1, .int .i64 x115007_1, .int .i64 x115008_1, .int .i64 x115009_1] 26 (0, 0)) (by (with_reducible repeat (first | refine blk_drewN ?_ _ | refine blk_drew ?_ | refine blk_alloc ?_ _)); exact BK114.out) hb)
               have n1_ := Aside0.mk (blk_below (g := gb115) (o := .cells #[.int .i64 x116000_49, .int .i64 x116001_1, .int .i64 x116002_1, .int .i64 x116003_1, .int .i64 x116004_1, .int .i64 x116005_1, .int .i64 x116006_1, .int .i64 x116007_1, .int .i64 x116008_1, .int .i64 x116009_1] 26 (0, 0)) (by (with_reducible repeat (first | refine blk_drewN ?_ _ | refine blk_drew ?_ | refine blk_alloc ?_ _)); exact BK115.out) hb)
               have n2_ := Aside0.mk (blk_below (g := gb116) (o := .cells #[.int .i64 x117000_28, .int .i64 x117001_49, .int .i64 x117002_1, .int .i64 x117003_1, .int .i64 x117004_1, .int .i64 x117005_1, .int .i64 x117006_1, .int .i64 x117007_1, .int .i64 x117008_1, .int .i64 x117009_1] 26 (0, 0)) (by (with_reducible repeat (first | refine blk_drewN ?_ _ | refine blk_drew ?_ | refine blk_alloc ?_ _)); exact BK116.out) hb)
               have n3_ := Aside0.mk (blk_below (g := gb117) (o := .cells #[.bool ((rd_T27 l0 x10_1).f0), .bool ((rd_T27 l0 x10_1).f1)] 27 (0, 0)) (by (with_reducible repeat (first | refine blk_drewN ?_ _ | refine blk_drew ?_ | refine blk_alloc ?_ _)); exact BK117.out) hb)
               have n4_ := Aside0.mk (below_step (by repeat (first | (with_reducible first | exact HB.out | apply below_alloc | apply pw_below_drewN | apply below_drew1 | refine below_set ?_ GE114.out | refine below_set ?_ GE115.out | refine below_set ?_ GE116.out | refine below_set ?_ GE117.out) | exact HB.out)) hb)
               clear BK114
               clear BK115
               clear BK116
               clear BK117
               clear HB
               have BK114 := n0_
               have BK115 := n1_
               have BK116 := n2_
               have BK117 := n3_
               have HB := n4_
               clear n0_ n1_ n2_ n3_ n4_
               (try clear hb)
               (try clear hb2)
               (try clear hk)
               (try clear hi)
               refine hK.out _ _ ⟨(blk_cell BK114.out 0).trans rfl, (blk_cell BK114.out 1).trans rfl, (blk_cell BK114.out 2).trans rfl, (blk_cell BK114.out 3).trans rfl, (blk_cell BK114.out 4).trans rfl, (blk_cell BK114.out 5).trans rfl, (blk_cell BK114.out 6).trans rfl, (blk_cell BK114.out 7).trans rfl, (blk_cell BK114.out 8).trans rfl, (blk_cell BK114.out 9).trans rfl, (blk_cell BK115.out 0).trans rfl, (blk_cell BK115.out 1).trans rfl, (blk_cell BK115.out 2).trans rfl, (blk_cell BK115.out 3).trans rfl, (blk_cell BK115.out 4).trans rfl, (blk_cell BK115.out 5).trans rfl, (blk_cell BK115.out 6).trans rfl, (blk_cell BK115.out 7).trans rfl, (blk_cell BK115.out 8).trans rfl, (blk_cell BK115.out 9).trans rfl, (blk_cell BK116.out 0).trans rfl, (blk_cell BK116.out 1).trans rfl, (blk_cell BK116.out 2).trans rfl, (blk_cell BK116.out 3).trans rfl, (blk_cell BK116.out 4).trans rfl, (blk_cell BK116.out 5).trans rfl, (blk_cell BK116.out 6).trans rfl, (blk_cell BK116.out 7).trans rfl, (blk_cell BK116.out 8).trans rfl, (blk_cell BK116.out 9).trans rfl⟩ (fun hHeld => ?_)
               clear hK K
               refine norm_ (a' := ?_) ?_ ?_
               rotate_left
               ·
                show Act.put _ (some 74) _ = _
                simp only [Act.put, List.setIfInBounds_toArray, List.set_cons_zero, List.set_cons_succ, i64_w, i32_w]
                rfl
               refine one_ (i := 3) (N := some 76) #[Tt,Tt,Tt,Tt,Tt,Ff,Ff,Ff,Ff] rfl rfl (one_of HT_.out (by kernel_rfl)) (by decide) (fun K hK => ?_)
               refine goes_ Try.func10 (by kernel_rfl) rfl #[.int .i64 5, .agg #[.int .i64 x116000_49, .int .i64 x116001_1, .int .i64 x116002_1, .int .i64 x116003_1, .int .i64 x116004_1, .int .i64 x116005_1, .int .i64 x116006_1, .int .i64 x116007_1, .int .i64 x116008_1, .int .i64 x116009_1]] (by rfl) rfl rfl (by (try simp only [List.map_toArray, List.map_cons, List.map_nil]); first | done | rfl | (simp only [List.length_drop, List.length_take]; rfl)) ?_
               with_reducible refine (count_Step.calls 5 x116000_49 x116001_1 x116002_1 x116003_1 x116004_1 x116005_1 x116006_1 x116007_1 x116008_1 x116009_1 t135 t136 t137 t138 t139 t140 t141 t142 t143 t144 _ A60.out).mono ?_
               rintro e w65 ⟨rfl, hb⟩
               refine ⟨_, rfl, ?_⟩
               have n0_ := Aside0.mk (blk_below (g := gb114) (o := .cells #[.int .i64 x115000_28, .int .i64 x115001_1, .int .i64 x115002_1, .int .i64 x115003_1, .int .i64 x115004_1, .int .i64 x115005_1, .int .i64 x115006_1, .int .i64 x115007_1, .int .i64 x115008_1, .int .i64 x115009_1] 26 (0, 0)) (by (with_reducible repeat (first | refine blk_drewN ?_ _ | refine blk_drew ?_ | refine blk_alloc ?_ _)); exact BK114.out) hb)
               have n1_ := Aside0.mk (blk_below (g := gb115) (o := .cells #[.int .i64 x116000_49, .int .i64 x116001_1, .int .i64 x116002_1, .int .i64 x116003_1, .int .i64 x116004_1, .int .i64 x116005_1, .int .i64 x116006_1, .int .i64 x116007_1, .int .i64 x116008_1, .int .i64 x116009_1] 26 (0, 0)) (by (with_reducible repeat (first | refine blk_drewN ?_ _ | refine blk_drew ?_ | refine blk_alloc ?_ _)); exact BK115.out) hb)
               have n2_ := Aside0.mk (blk_below (g := gb116) (o := .cells #[.int .i64 x117000_28, .int .i64 x117001_49, .int .i64 x117002_1, .int .i64 x117003_1, .int .i64 x117004_1, .int .i64 x117005_1, .int .i64 x117006_1, .int .i64 x117007_1, .int .i64 x117008_1, .int .i64 x117009_1] 26 (0, 0)) (by (with_reducible repeat (first | refine blk_drewN ?_ _ | refine blk_drew ?_ | refine blk_alloc ?_ _)); exact BK116.out) hb)
               have n3_ := Aside0.mk (blk_below (g := gb117) (o := .cells #[.bool ((rd_T27 l0 x10_1).f0), .bool ((rd_T27 l0 x10_1).f1)] 27 (0, 0)) (by (with_reducible repeat (first | refine blk_drewN ?_ _ | refine blk_drew ?_ | refine blk_alloc ?_ _)); exact BK117.out) hb)
               have n4_ := Aside0.mk (below_step (by repeat (first | (with_reducible first | exact HB.out | apply below_alloc | apply pw_below_drewN | apply below_drew1 | refine below_set ?_ GE114.out | refine below_set ?_ GE115.out | refine below_set ?_ GE116.out | refine below_set ?_ GE117.out) | exact HB.out)) hb)
               clear BK114
               clear BK115
               clear BK116
               clear BK117
               clear HB
               have BK114 := n0_
               have BK115 := n1_
               have BK116 := n2_
               have BK117 := n3_
               have HB := n4_
               clear n0_ n1_ n2_ n3_ n4_
               (try clear hb)
               (try clear hb2)
               (try clear hk)
               (try clear hi)
               refine hK.out _ _ ⟨(blk_cell BK114.out 0).trans rfl, (blk_cell BK114.out 1).trans rfl, (blk_cell BK114.out 2).trans rfl, (blk_cell BK114.out 3).trans rfl, (blk_cell BK114.out 4).trans rfl, (blk_cell BK114.out 5).trans rfl, (blk_cell BK114.out 6).trans rfl, (blk_cell BK114.out 7).trans rfl, (blk_cell BK114.out 8).trans rfl, (blk_cell BK114.out 9).trans rfl, (blk_cell BK115.out 0).trans rfl, (blk_cell BK115.out 1).trans rfl, (blk_cell BK115.out 2).trans rfl, (blk_cell BK115.out 3).trans rfl, (blk_cell BK115.out 4).trans rfl, (blk_cell BK115.out 5).trans rfl, (blk_cell BK115.out 6).trans rfl, (blk_cell BK115.out 7).trans rfl, (blk_cell BK115.out 8).trans rfl, (blk_cell BK115.out 9).trans rfl, (blk_cell BK116.out 0).trans rfl, (blk_cell BK116.out 1).trans rfl, (blk_cell BK116.out 2).trans rfl, (blk_cell BK116.out 3).trans rfl, (blk_cell BK116.out 4).trans rfl, (blk_cell BK116.out 5).trans rfl, (blk_cell BK116.out 6).trans rfl, (blk_cell BK116.out 7).trans rfl, (blk_cell BK116.out 8).trans rfl, (blk_cell BK116.out 9).trans rfl⟩ (fun hHeld => ?_)
               clear hK K
               refine norm_ (a' := ?_) ?_ ?_
               rotate_left
               ·
                show Act.put _ (some 76) _ = _
                simp only [Act.put, List.setIfInBounds_toArray, List.set_cons_zero, List.set_cons_succ, i64_w, i32_w]
                rfl
               refine one_ (i := 5) (N := some 78) #[Tt,Tt,Tt,Tt,Tt,Tt,Ff,Ff,Ff] rfl rfl (one_of HT_.out (by kernel_rfl)) (by decide) (fun K hK => ?_)
               refine goes_ Try.func10 (by kernel_rfl) rfl #[.int .i64 6, .agg #[.int .i64 x117000_28, .int .i64 x117001_49, .int .i64 x117002_1, .int .i64 x117003_1, .int .i64 x117004_1, .int .i64 x117005_1, .int .i64 x117006_1, .int .i64 x117007_1, .int .i64 x117008_1, .int .i64 x117009_1]] (by rfl) rfl rfl (by (try simp only [List.map_toArray, List.map_cons, List.map_nil]); first | done | rfl | (simp only [List.length_drop, List.length_take]; rfl)) ?_
               with_reducible refine (count_Step.calls 6 x117000_28 x117001_49 x117002_1 x117003_1 x117004_1 x117005_1 x117006_1 x117007_1 x117008_1 x117009_1 t145 t146 t147 t148 t149 t150 t151 t152 t153 t154 _ A61.out).mono ?_
               rintro e w66 ⟨rfl, hb⟩
               refine ⟨_, rfl, ?_⟩
               have n0_ := Aside0.mk (blk_below (g := gb114) (o := .cells #[.int .i64 x115000_28, .int .i64 x115001_1, .int .i64 x115002_1, .int .i64 x115003_1, .int .i64 x115004_1, .int .i64 x115005_1, .int .i64 x115006_1, .int .i64 x115007_1, .int .i64 x115008_1, .int .i64 x115009_1] 26 (0, 0)) (by (with_reducible repeat (first | refine blk_drewN ?_ _ | refine blk_drew ?_ | refine blk_alloc ?_ _)); exact BK114.out) hb)
               have n1_ := Aside0.mk (blk_below (g := gb115) (o := .cells #[.int .i64 x116000_49, .int .i64 x116001_1, .int .i64 x116002_1, .int .i64 x116003_1, .int .i64 x116004_1, .int .i64 x116005_1, .int .i64 x116006_1, .int .i64 x116007_1, .int .i64 x116008_1, .int .i64 x116009_1] 26 (0, 0)) (by (with_reducible repeat (first | refine blk_drewN ?_ _ | refine blk_drew ?_ | refine blk_alloc ?_ _)); exact BK115.out) hb)
               have n2_ := Aside0.mk (blk_below (g := gb116) (o := .cells #[.int .i64 x117000_28, .int .i64 x117001_49, .int .i64 x117002_1, .int .i64 x117003_1, .int .i64 x117004_1, .int .i64 x117005_1, .int .i64 x117006_1, .int .i64 x117007_1, .int .i64 x117008_1, .int .i64 x117009_1] 26 (0, 0)) (by (with_reducible repeat (first | refine blk_drewN ?_ _ | refine blk_drew ?_ | refine blk_alloc ?_ _)); exact BK116.out) hb)
               have n3_ := Aside0.mk (blk_below (g := gb117) (o := .cells #[.bool ((rd_T27 l0 x10_1).f0), .bool ((rd_T27 l0 x10_1).f1)] 27 (0, 0)) (by (with_reducible repeat (first | refine blk_drewN ?_ _ | refine blk_drew ?_ | refine blk_alloc ?_ _)); exact BK117.out) hb)
               have n4_ := Aside0.mk (below_step (by repeat (first | (with_reducible first | exact HB.out | apply below_alloc | apply pw_below_drewN | apply below_drew1 | refine below_set ?_ GE114.out | refine below_set ?_ GE115.out | refine below_set ?_ GE116.out | refine below_set ?_ GE117.out) | exact HB.out)) hb)
               clear BK114
               clear BK115
               clear BK116
               clear BK117
               clear HB
               have BK114 := n0_
               have BK115 := n1_
               have BK116 := n2_
               have BK117 := n3_
               have HB := n4_
               clear n0_ n1_ n2_ n3_ n4_
               (try clear hb)
               (try clear hb2)
               (try clear hk)
               (try clear hi)
               refine hK.out _ _ ⟨(blk_cell BK114.out 0).trans rfl, (blk_cell BK114.out 1).trans rfl, (blk_cell BK114.out 2).trans rfl, (blk_cell BK114.out 3).trans rfl, (blk_cell BK114.out 4).trans rfl, (blk_cell BK114.out 5).trans rfl, (blk_cell BK114.out 6).trans rfl, (blk_cell BK114.out 7).trans rfl, (blk_cell BK114.out 8).trans rfl, (blk_cell BK114.out 9).trans rfl, (blk_cell BK115.out 0).trans rfl, (blk_cell BK115.out 1).trans rfl, (blk_cell BK115.out 2).trans rfl, (blk_cell BK115.out 3).trans rfl, (blk_cell BK115.out 4).trans rfl, (blk_cell BK115.out 5).trans rfl, (blk_cell BK115.out 6).trans rfl, (blk_cell BK115.out 7).trans rfl, (blk_cell BK115.out 8).trans rfl, (blk_cell BK115.out 9).trans rfl, (blk_cell BK116.out 0).trans rfl, (blk_cell BK116.out 1).trans rfl, (blk_cell BK116.out 2).trans rfl, (blk_cell BK116.out 3).trans rfl, (blk_cell BK116.out 4).trans rfl, (blk_cell BK116.out 5).trans rfl, (blk_cell BK116.out 6).trans rfl, (blk_cell BK116.out 7).trans rfl, (blk_cell BK116.out 8).trans rfl, (blk_cell BK116.out 9).trans rfl⟩ (fun hHeld => ?_)
               clear hK K
               refine norm_ (a' := ?_) ?_ ?_
               rotate_left
               ·
                show Act.put _ (some 78) _ = _
                simp only [Act.put, List.setIfInBounds_toArray, List.set_cons_zero, List.set_cons_succ, i64_w, i32_w]
                rfl
               refine last_ (i := 6) (N := none) #[Tt,Tt,Tt,Tt,Tt,Tt,Tt,Ff,Ff] rfl rfl (one_of HT_.out (by kernel_rfl)) (by decide) (fun K hK => ?_)
               have hs67 : w66.cell? ⟨gb114, 0, none⟩ = some (.int .i64 x115000_28) := (blk_cell BK114.out 0).trans rfl
               have hfs67 := blk_frozen BK114.out 0
               have hns67_1 := NB115_114.out
               have hns67_2 := NB116_114.out
               have hns67_3 := NB117_114.out
               have hms67_1 := NB114_115.out
               have hms67_2 := NB114_116.out
               have hms67_3 := NB114_117.out
               have hs68 : w66.cell? ⟨gb114, 1, none⟩ = some (.int .i64 x115001_1) := (blk_cell BK114.out 1).trans rfl
               have hfs68 := blk_frozen BK114.out 1
               have hns68_1 := NB115_114.out
               have hns68_2 := NB116_114.out
               have hns68_3 := NB117_114.out
               have hms68_1 := NB114_115.out
               have hms68_2 := NB114_116.out
               have hms68_3 := NB114_117.out
               have hs69 : w66.cell? ⟨gb114, 2, none⟩ = some (.int .i64 x115002_1) := (blk_cell BK114.out 2).trans rfl
               have hfs69 := blk_frozen BK114.out 2
               have hns69_1 := NB115_114.out
               have hns69_2 := NB116_114.out
               have hns69_3 := NB117_114.out
               have hms69_1 := NB114_115.out
               have hms69_2 := NB114_116.out
               have hms69_3 := NB114_117.out
               have hs70 : w66.cell? ⟨gb114, 3, none⟩ = some (.int .i64 x115003_1) := (blk_cell BK114.out 3).trans rfl
               have hfs70 := blk_frozen BK114.out 3
               have hns70_1 := NB115_114.out
               have hns70_2 := NB116_114.out
               have hns70_3 := NB117_114.out
               have hms70_1 := NB114_115.out
               have hms70_2 := NB114_116.out
               have hms70_3 := NB114_117.out
               have hs71 : w66.cell? ⟨gb114, 4, none⟩ = some (.int .i64 x115004_1) := (blk_cell BK114.out 4).trans rfl
               have hfs71 := blk_frozen BK114.out 4
               have hns71_1 := NB115_114.out
               have hns71_2 := NB116_114.out
               have hns71_3 := NB117_114.out
               have hms71_1 := NB114_115.out
               have hms71_2 := NB114_116.out
               have hms71_3 := NB114_117.out
               have hs72 : w66.cell? ⟨gb114, 5, none⟩ = some (.int .i64 x115005_1) := (blk_cell BK114.out 5).trans rfl
               have hfs72 := blk_frozen BK114.out 5
               have hns72_1 := NB115_114.out
               have hns72_2 := NB116_114.out
               have hns72_3 := NB117_114.out
               have hms72_1 := NB114_115.out
               have hms72_2 := NB114_116.out
               have hms72_3 := NB114_117.out
               have hs73 : w66.cell? ⟨gb114, 6, none⟩ = some (.int .i64 x115006_1) := (blk_cell BK114.out 6).trans rfl
               have hfs73 := blk_frozen BK114.out 6
               have hns73_1 := NB115_114.out
               have hns73_2 := NB116_114.out
               have hns73_3 := NB117_114.out
               have hms73_1 := NB114_115.out
               have hms73_2 := NB114_116.out
               have hms73_3 := NB114_117.out
               have hs74 : w66.cell? ⟨gb114, 7, none⟩ = some (.int .i64 x115007_1) := (blk_cell BK114.out 7).trans rfl
               have hfs74 := blk_frozen BK114.out 7
               have hns74_1 := NB115_114.out
               have hns74_2 := NB116_114.out
               have hns74_3 := NB117_114.out
               have hms74_1 := NB114_115.out
               have hms74_2 := NB114_116.out
               have hms74_3 := NB114_117.out
               have hs75 : w66.cell? ⟨gb114, 8, none⟩ = some (.int .i64 x115008_1) := (blk_cell BK114.out 8).trans rfl
               have hfs75 := blk_frozen BK114.out 8
               have hns75_1 := NB115_114.out
               have hns75_2 := NB116_114.out
               have hns75_3 := NB117_114.out
               have hms75_1 := NB114_115.out
               have hms75_2 := NB114_116.out
               have hms75_3 := NB114_117.out
               have hs76 : w66.cell? ⟨gb114, 9, none⟩ = some (.int .i64 x115009_1) := (blk_cell BK114.out 9).trans rfl
               have hfs76 := blk_frozen BK114.out 9
               have hns76_1 := NB115_114.out
               have hns76_2 := NB116_114.out
               have hns76_3 := NB117_114.out
               have hms76_1 := NB114_115.out
               have hms76_2 := NB114_116.out
               have hms76_3 := NB114_117.out
               with_reducible refine skip_ (w1 := ?_) ?_ ?_ ?_ ?_
               rotate_left
               · rfl
               · rfl
               ·
                first | (exact store10_ rfl rfl rfl (by repeat' (first | (with_reducible exact Aside0.out (by assumption)) | refine blk_far ?_ (Aside0.out (by assumption)) _))) | (go_simp; rfl)
               refine hK.out _ _ ?_
               clear hK K
               refine last_ (i := 7) (N := none) #[Tt,Tt,Tt,Tt,Tt,Tt,Tt,Tt,Ff] rfl rfl (one_of HT_.out (by kernel_rfl)) (by decide) (fun K hK => ?_)
               have hs77 : w66.cell? ⟨gb115, 0, none⟩ = some (.int .i64 x116000_49) := (blk_cell BK115.out 0).trans rfl
               have hfs77 := blk_frozen BK115.out 0
               have hns77_0 := NB114_115.out
               have hns77_2 := NB116_115.out
               have hns77_3 := NB117_115.out
               have hms77_0 := NB115_114.out
               have hms77_2 := NB115_116.out
               have hms77_3 := NB115_117.out
               have hs78 : w66.cell? ⟨gb115, 1, none⟩ = some (.int .i64 x116001_1) := (blk_cell BK115.out 1).trans rfl
               have hfs78 := blk_frozen BK115.out 1
               have hns78_0 := NB114_115.out
               have hns78_2 := NB116_115.out
               have hns78_3 := NB117_115.out
               have hms78_0 := NB115_114.out
               have hms78_2 := NB115_116.out
               have hms78_3 := NB115_117.out
               have hs79 : w66.cell? ⟨gb115, 2, none⟩ = some (.int .i64 x116002_1) := (blk_cell BK115.out 2).trans rfl
               have hfs79 := blk_frozen BK115.out 2
               have hns79_0 := NB114_115.out
               have hns79_2 := NB116_115.out
               have hns79_3 := NB117_115.out
               have hms79_0 := NB115_114.out
               have hms79_2 := NB115_116.out
               have hms79_3 := NB115_117.out
               have hs80 : w66.cell? ⟨gb115, 3, none⟩ = some (.int .i64 x116003_1) := (blk_cell BK115.out 3).trans rfl
               have hfs80 := blk_frozen BK115.out 3
               have hns80_0 := NB114_115.out
               have hns80_2 := NB116_115.out
               have hns80_3 := NB117_115.out
               have hms80_0 := NB115_114.out
               have hms80_2 := NB115_116.out
               have hms80_3 := NB115_117.out
               have hs81 : w66.cell? ⟨gb115, 4, none⟩ = some (.int .i64 x116004_1) := (blk_cell BK115.out 4).trans rfl
               have hfs81 := blk_frozen BK115.out 4
               have hns81_0 := NB114_115.out
               have hns81_2 := NB116_115.out
               have hns81_3 := NB117_115.out
               have hms81_0 := NB115_114.out
               have hms81_2 := NB115_116.out
               have hms81_3 := NB115_117.out
               have hs82 : w66.cell? ⟨gb115, 5, none⟩ = some (.int .i64 x116005_1) := (blk_cell BK115.out 5).trans rfl
               have hfs82 := blk_frozen BK115.out 5
               have hns82_0 := NB114_115.out
               have hns82_2 := NB116_115.out
               have hns82_3 := NB117_115.out
               have hms82_0 := NB115_114.out
               have hms82_2 := NB115_116.out
               have hms82_3 := NB115_117.out
               have hs83 : w66.cell? ⟨gb115, 6, none⟩ = some (.int .i64 x116006_1) := (blk_cell BK115.out 6).trans rfl
               have hfs83 := blk_frozen BK115.out 6
               have hns83_0 := NB114_115.out
               have hns83_2 := NB116_115.out
               have hns83_3 := NB117_115.out
               have hms83_0 := NB115_114.out
               have hms83_2 := NB115_116.out
               have hms83_3 := NB115_117.out
               have hs84 : w66.cell? ⟨gb115, 7, none⟩ = some (.int .i64 x116007_1) := (blk_cell BK115.out 7).trans rfl
               have hfs84 := blk_frozen BK115.out 7
               have hns84_0 := NB114_115.out
               have hns84_2 := NB116_115.out
               have hns84_3 := NB117_115.out
               have hms84_0 := NB115_114.out
               have hms84_2 := NB115_116.out
               have hms84_3 := NB115_117.out
               have hs85 : w66.cell? ⟨gb115, 8, none⟩ = some (.int .i64 x116008_1) := (blk_cell BK115.out 8).trans rfl
               have hfs85 := blk_frozen BK115.out 8
               have hns85_0 := NB114_115.out
               have hns85_2 := NB116_115.out
               have hns85_3 := NB117_115.out
               have hms85_0 := NB115_114.out
               have hms85_2 := NB115_116.out
               have hms85_3 := NB115_117.out
               have hs86 : w66.cell? ⟨gb115, 9, none⟩ = some (.int .i64 x116009_1) := (blk_cell BK115.out 9).trans rfl
               have hfs86 := blk_frozen BK115.out 9
               have hns86_0 := NB114_115.out
               have hns86_2 := NB116_115.out
               have hns86_3 := NB117_115.out
               have hms86_0 := NB115_114.out
               have hms86_2 := NB115_116.out
               have hms86_3 := NB115_117.out
               with_reducible refine skip_ (w1 := ?_) ?_ ?_ ?_ ?_
               rotate_left
               · rfl
               · rfl
               ·
                first | (exact store10_ rfl rfl rfl (by repeat' (first | (with_reducible exact Aside0.out (by assumption)) | refine blk_far ?_ (Aside0.out (by assumption)) _))) | (go_simp; rfl)
               refine hK.out _ _ ?_
               clear hK K
               refine last_ (i := 8) (N := none) #[Tt,Tt,Tt,Tt,Tt,Tt,Tt,Tt,Tt] rfl rfl (one_of HT_.out (by kernel_rfl)) (by decide) (fun K hK => ?_)
               have hs87 : w66.cell? ⟨gb116, 0, none⟩ = some (.int .i64 x117000_28) := (blk_cell BK116.out 0).trans rfl
               have hfs87 := blk_frozen BK116.out 0
               have hns87_0 := NB114_116.out
               have hns87_1 := NB115_116.out
               have hns87_3 := NB117_116.out
               have hms87_0 := NB116_114.out
               have hms87_1 := NB116_115.out
               have hms87_3 := NB116_117.out
               have hs88 : w66.cell? ⟨gb116, 1, none⟩ = some (.int .i64 x117001_49) := (blk_cell BK116.out 1).trans rfl
               have hfs88 := blk_frozen BK116.out 1
               have hns88_0 := NB114_116.out
               have hns88_1 := NB115_116.out
               have hns88_3 := NB117_116.out
               have hms88_0 := NB116_114.out
               have hms88_1 := NB116_115.out
               have hms88_3 := NB116_117.out
               have hs89 : w66.cell? ⟨gb116, 2, none⟩ = some (.int .i64 x117002_1) := (blk_cell BK116.out 2).trans rfl
               have hfs89 := blk_frozen BK116.out 2
               have hns89_0 := NB114_116.out
               have hns89_1 := NB115_116.out
               have hns89_3 := NB117_116.out
               have hms89_0 := NB116_114.out
               have hms89_1 := NB116_115.out
               have hms89_3 := NB116_117.out
               have hs90 : w66.cell? ⟨gb116, 3, none⟩ = some (.int .i64 x117003_1) := (blk_cell BK116.out 3).trans rfl
               have hfs90 := blk_frozen BK116.out 3
               have hns90_0 := NB114_116.out
               have hns90_1 := NB115_116.out
               have hns90_3 := NB117_116.out
               have hms90_0 := NB116_114.out
               have hms90_1 := NB116_115.out
               have hms90_3 := NB116_117.out
               have hs91 : w66.cell? ⟨gb116, 4, none⟩ = some (.int .i64 x117004_1) := (blk_cell BK116.out 4).trans rfl
               have hfs91 := blk_frozen BK116.out 4
               have hns91_0 := NB114_116.out
               have hns91_1 := NB115_116.out
               have hns91_3 := NB117_116.out
               have hms91_0 := NB116_114.out
               have hms91_1 := NB116_115.out
               have hms91_3 := NB116_117.out
               have hs92 : w66.cell? ⟨gb116, 5, none⟩ = some (.int .i64 x117005_1) := (blk_cell BK116.out 5).trans rfl
               have hfs92 := blk_frozen BK116.out 5
               have hns92_0 := NB114_116.out
               have hns92_1 := NB115_116.out
               have hns92_3 := NB117_116.out
               have hms92_0 := NB116_114.out
               have hms92_1 := NB116_115.out
               have hms92_3 := NB116_117.out
               have hs93 : w66.cell? ⟨gb116, 6, none⟩ = some (.int .i64 x117006_1) := (blk_cell BK116.out 6).trans rfl
               have hfs93 := blk_frozen BK116.out 6
               have hns93_0 := NB114_116.out
               have hns93_1 := NB115_116.out
               have hns93_3 := NB117_116.out
               have hms93_0 := NB116_114.out
               have hms93_1 := NB116_115.out
               have hms93_3 := NB116_117.out
               have hs94 : w66.cell? ⟨gb116, 7, none⟩ = some (.int .i64 x117007_1) := (blk_cell BK116.out 7).trans rfl
               have hfs94 := blk_frozen BK116.out 7
               have hns94_0 := NB114_116.out
               have hns94_1 := NB115_116.out
               have hns94_3 := NB117_116.out
               have hms94_0 := NB116_114.out
               have hms94_1 := NB116_115.out
               have hms94_3 := NB116_117.out
               have hs95 : w66.cell? ⟨gb116, 8, none⟩ = some (.int .i64 x117008_1) := (blk_cell BK116.out 8).trans rfl
               have hfs95 := blk_frozen BK116.out 8
               have hns95_0 := NB114_116.out
               have hns95_1 := NB115_116.out
               have hns95_3 := NB117_116.out
               have hms95_0 := NB116_114.out
               have hms95_1 := NB116_115.out
               have hms95_3 := NB116_117.out
               have hs96 : w66.cell? ⟨gb116, 9, none⟩ = some (.int .i64 x117009_1) := (blk_cell BK116.out 9).trans rfl
               have hfs96 := blk_frozen BK116.out 9
               have hns96_0 := NB114_116.out
               have hns96_1 := NB115_116.out
               have hns96_3 := NB117_116.out
               have hms96_0 := NB116_114.out
               have hms96_1 := NB116_115.out
               have hms96_3 := NB116_117.out
               with_reducible refine skip_ (w1 := ?_) ?_ ?_ ?_ ?_
               rotate_left
               · rfl
               · rfl
               ·
                first | (exact store10_ rfl rfl rfl (by repeat' (first | (with_reducible exact Aside0.out (by assumption)) | refine blk_far ?_ (Aside0.out (by assumption)) _))) | (go_simp; rfl)
               refine hK.out _ _ ?_
               clear hK K
               refine done_ (done_of HT_.out (by kernel_rfl)) ?_
               go_upto_if 79 with (fail)
               repeat (go_quiet (fail); go_upto_if 79 with (fail))
               go_cut [7] (fun v7 wc => ∃ (kq : Nat) (x7_61 : Int), v7 = .int .i64 x7_61 ∧ Aside0 (ladderbacklaw09_CountRises.j4 kq l0 x7_61 x8_1 x9_1 x10_1 x11_9 x12_9 t125 t126 t127 t128 t129 t130 t131 t132 t133 t134 t135 t136 t137 t138 t139 t140 t141 t142 t143 t144 t145 t146 t147 t148 t149 t150 t151 t152 t153 t154 ((rd_T27 l0 x10_1).f0) ((rd_T27 l0 x10_1).f1) = some r) ∧ Aside0 (kq ≤ kj49) ∧ Aside0 (wc.heap[gb114]? = some (.cells #[.int .i64 t125, .int .i64 t126, .int .i64 t127, .int .i64 t128, .int .i64 t129, .int .i64 t130, .int .i64 t131, .int .i64 t132, .int .i64 t133, .int .i64 t134] 26 (0, 0))) ∧ Aside0 (wc.heap[gb115]? = some (.cells #[.int .i64 t135, .int .i64 t136, .int .i64 t137, .int .i64 t138, .int .i64 t139, .int .i64 t140, .int .i64 t141, .int .i64 t142, .int .i64 t143, .int .i64 t144] 26 (0, 0))) ∧ Aside0 (wc.heap[gb116]? = some (.cells #[.int .i64 t145, .int .i64 t146, .int .i64 t147, .int .i64 t148, .int .i64 t149, .int .i64 t150, .int .i64 t151, .int .i64 t152, .int .i64 t153, .int .i64 t154] 26 (0, 0))) ∧ Aside0 (wc.heap[gb117]? = some (.cells #[.bool ((rd_T27 l0 x10_1).f0), .bool ((rd_T27 l0 x10_1).f1)] 27 (0, 0))) ∧ Aside0 (Below w.heap.size w wc))
               case first =>
                have H := HC62.out
                clear HC62
                by_cases c97 : x11_9 = true
                ·
                 subst c97
                 have H1 : (ladderbacklaw09_CountRises.j4 kj49 l0 (wrap64 (x7_1 + 1)) x8_1 x9_1 x10_1 true x12_9 t125 t126 t127 t128 t129 t130 t131 t132 t133 t134 t135 t136 t137 t138 t139 t140 t141 t142 t143 t144 t145 t146 t147 t148 t149 t150 t151 t152 t153 t154 ((rd_T27 l0 x10_1).f0) ((rd_T27 l0 x10_1).f1)) = some r := by rw [if_pos rfl] at H; exact H
                 clear H
                 have H := H1
                 clear H1
                 have H' := Aside0.mk H
                 clear H
                 try go_wp2
                 repeat (go_quiet (fail); try go_wp2)
                 go_meet
                 case rel => exact ⟨_, (wrap64 (x7_1 + 1)), (by first | rfl | (simp; done) | (simp [*]; done)), H', ⟨by have := HK1.out; have := HJ9.out; have := HJ28.out; have := HJ49.out; first | omega | exact Nat.le_refl _⟩, ⟨by (with_reducible repeat (first | refine blk_drewN ?_ _ | refine blk_drew ?_ | refine blk_alloc ?_ _)); refine blk_far ?_ NB114_116.out _; (with_reducible repeat (first | refine blk_drewN ?_ _ | refine blk_drew ?_ | refine blk_alloc ?_ _)); refine blk_far ?_ NB114_116.out _; (with_reducible repeat (first | refine blk_drewN ?_ _ | refine blk_drew ?_ | refine blk_alloc ?_ _)); refine blk_far ?_ NB114_116.out _; (with_reducible repeat (first | refine blk_drewN ?_ _ | refine blk_drew ?_ | refine blk_alloc ?_ _)); refine blk_far ?_ NB114_116.out _; (with_reducible repeat (first | refine blk_drewN ?_ _ | refine blk_drew ?_ | refine blk_alloc ?_ _)); refine blk_far ?_ NB114_116.out _; (with_reducible repeat (first | refine blk_drewN ?_ _ | refine blk_drew ?_ | refine blk_alloc ?_ _)); refine blk_far ?_ NB114_116.out _; (with_reducible repeat (first | refine blk_drewN ?_ _ | refine blk_drew ?_ | refine blk_alloc ?_ _)); refine blk_far ?_ NB114_116.out _; (with_reducible repeat (first | refine blk_drewN ?_ _ | refine blk_drew ?_ | refine blk_alloc ?_ _)); refine blk_far ?_ NB114_116.out _; (with_reducible repeat (first | refine blk_drewN ?_ _ | refine blk_drew ?_ | refine blk_alloc ?_ _)); refine blk_far ?_ NB114_116.out _; (with_reducible repeat (first | refine blk_drewN ?_ _ | refine blk_drew ?_ | refine blk_alloc ?_ _)); refine blk_far ?_ NB114_116.out _; (with_reducible repeat (first | refine blk_drewN ?_ _ | refine blk_drew ?_ | refine blk_alloc ?_ _)); refine blk_far ?_ NB114_115.out _; (with_reducible repeat (first | refine blk_drewN ?_ _ | refine blk_drew ?_ | refine blk_alloc ?_ _)); refine blk_far ?_ NB114_115.out _; (with_reducible repeat (first | refine blk_drewN ?_ _ | refine blk_drew ?_ | refine blk_alloc ?_ _)); refine blk_far ?_ NB114_115.out _; (with_reducible repeat (first | refine blk_drewN ?_ _ | refine blk_drew ?_ | refine blk_alloc ?_ _)); refine blk_far ?_ NB114_115.out _; (with_reducible repeat (first | refine blk_drewN ?_ _ | refine blk_drew ?_ | refine blk_alloc ?_ _)); refine blk_far ?_ NB114_115.out _; (with_reducible repeat (first | refine blk_drewN ?_ _ | refine blk_drew ?_ | refine blk_alloc ?_ _)); refine blk_far ?_ NB114_115.out _; (with_reducible repeat (first | refine blk_drewN ?_ _ | refine blk_drew ?_ | refine blk_alloc ?_ _)); refine blk_far ?_ NB114_115.out _; (with_reducible repeat (first | refine blk_drewN ?_ _ | refine blk_drew ?_ | refine blk_alloc ?_ _)); refine blk_far ?_ NB114_115.out _; (with_reducible repeat (first | refine blk_drewN ?_ _ | refine blk_drew ?_ | refine blk_alloc ?_ _)); refine blk_far ?_ NB114_115.out _; (with_reducible repeat (first | refine blk_drewN ?_ _ | refine blk_drew ?_ | refine blk_alloc ?_ _)); refine blk_far ?_ NB114_115.out _; (with_reducible repeat (first | refine blk_drewN ?_ _ | refine blk_drew ?_ | refine blk_alloc ?_ _)); refine blk_put (cs := #[.int .i64 t125, .int .i64 t126, .int .i64 t127, .int .i64 t128, .int .i64 t129, .int .i64 t130, .int .i64 t131, .int .i64 t132, .int .i64 t133, .int .i64 x115009_1]) ?_ 9 _ rfl; (with_reducible repeat (first | refine blk_drewN ?_ _ | refine blk_drew ?_ | refine blk_alloc ?_ _)); refine blk_put (cs := #[.int .i64 t125, .int .i64 t126, .int .i64 t127, .int .i64 t128, .int .i64 t129, .int .i64 t130, .int .i64 t131, .int .i64 t132, .int .i64 x115008_1, .int .i64 x115009_1]) ?_ 8 _ rfl; (with_reducible repeat (first | refine blk_drewN ?_ _ | refine blk_drew ?_ | refine blk_alloc ?_ _)); refine blk_put (cs := #[.int .i64 t125, .int .i64 t126, .int .i64 t127, .int .i64 t128, .int .i64 t129, .int .i64 t130, .int .i64 t131, .int .i64 x115007_1, .int .i64 x115008_1, .int .i64 x115009_1]) ?_ 7 _ rfl; (with_reducible repeat (first | refine blk_drewN ?_ _ | refine blk_drew ?_ | refine blk_alloc ?_ _)); refine blk_put (cs := #[.int .i64 t125, .int .i64 t126, .int .i64 t127, .int .i64 t128, .int .i64 t129, .int .i64 t130, .int .i64 x115006_1, .int .i64 x115007_1, .int .i64 x115008_1, .int .i64 x115009_1]) ?_ 6 _ rfl; (with_reducible repeat (first | refine blk_drewN ?_ _ | refine blk_drew ?_ | refine blk_alloc ?_ _)); refine blk_put (cs := #[.int .i64 t125, .int .i64 t126, .int .i64 t127, .int .i64 t128, .int .i64 t129, .int .i64 x115005_1, .int .i64 x115006_1, .int .i64 x115007_1, .int .i64 x115008_1, .int .i64 x115009_1]) ?_ 5 _ rfl; (with_reducible repeat (first | refine blk_drewN ?_ _ | refine blk_drew ?_ | refine blk_alloc ?_ _)); refine blk_put (cs := #[.int .i64 t125, .int .i64 t126, .int .i64 t127, .int .i64 t128, .int .i64 x115004_1, .int .i64 x115005_1, .int .i64 x115006_1, .int .i64 x115007_1, .int .i64 x115008_1, .int .i64 x115009_1]) ?_ 4 _ rfl; (with_reducible repeat (first | refine blk_drewN ?_ _ | refine blk_drew ?_ | refine blk_alloc ?_ _)); refine blk_put (cs := #[.int .i64 t125, .int .i64 t126, .int .i64 t127, .int .i64 x115003_1, .int .i64 x115004_1, .int .i64 x115005_1, .int .i64 x115006_1, .int .i64 x115007_1, .int .i64 x115008_1, .int .i64 x115009_1]) ?_ 3 _ rfl; (with_reducible repeat (first | refine blk_drewN ?_ _ | refine blk_drew ?_ | refine blk_alloc ?_ _)); refine blk_put (cs := #[.int .i64 t125, .int .i64 t126, .int .i64 x115002_1, .int .i64 x115003_1, .int .i64 x115004_1, .int .i64 x115005_1, .int .i64 x115006_1, .int .i64 x115007_1, .int .i64 x115008_1, .int .i64 x115009_1]) ?_ 2 _ rfl; (with_reducible repeat (first | refine blk_drewN ?_ _ | refine blk_drew ?_ | refine blk_alloc ?_ _)); refine blk_put (cs := #[.int .i64 t125, .int .i64 x115001_1, .int .i64 x115002_1, .int .i64 x115003_1, .int .i64 x115004_1, .int .i64 x115005_1, .int .i64 x115006_1, .int .i64 x115007_1, .int .i64 x115008_1, .int .i64 x115009_1]) ?_ 1 _ rfl; (with_reducible repeat (first | refine blk_drewN ?_ _ | refine blk_drew ?_ | refine blk_alloc ?_ _)); refine blk_put (cs := #[.int .i64 x115000_28, .int .i64 x115001_1, .int .i64 x115002_1, .int .i64 x115003_1, .int .i64 x115004_1, .int .i64 x115005_1, .int .i64 x115006_1, .int .i64 x115007_1, .int .i64 x115008_1, .int .i64 x115009_1]) ?_ 0 _ rfl; (with_reducible repeat (first | refine blk_drewN ?_ _ | refine blk_drew ?_ | refine blk_alloc ?_ _)); exact BK114.out⟩, ⟨by (with_reducible repeat (first | refine blk_drewN ?_ _ | refine blk_drew ?_ | refine blk_alloc ?_ _)); refine blk_far ?_ NB115_116.out _; (with_reducible repeat (first | refine blk_drewN ?_ _ | refine blk_drew ?_ | refine blk_alloc ?_ _)); refine blk_far ?_ NB115_116.out _; (with_reducible repeat (first | refine blk_drewN ?_ _ | refine blk_drew ?_ | refine blk_alloc ?_ _)); refine blk_far ?_ NB115_116.out _; (with_reducible repeat (first | refine blk_drewN ?_ _ | refine blk_drew ?_ | refine blk_alloc ?_ _)); refine blk_far ?_ NB115_116.out _; (with_reducible repeat (first | refine blk_drewN ?_ _ | refine blk_drew ?_ | refine blk_alloc ?_ _)); refine blk_far ?_ NB115_116.out _; (with_reducible repeat (first | refine blk_drewN ?_ _ | refine blk_drew ?_ | refine blk_alloc ?_ _)); refine blk_far ?_ NB115_116.out _; (with_reducible repeat (first | refine blk_drewN ?_ _ | refine blk_drew ?_ | refine blk_alloc ?_ _)); refine blk_far ?_ NB115_116.out _; (with_reducible repeat (first | refine blk_drewN ?_ _ | refine blk_drew ?_ | refine blk_alloc ?_ _)); refine blk_far ?_ NB115_116.out _; (with_reducible repeat (first | refine blk_drewN ?_ _ | refine blk_drew ?_ | refine blk_alloc ?_ _)); refine blk_far ?_ NB115_116.out _; (with_reducible repeat (first | refine blk_drewN ?_ _ | refine blk_drew ?_ | refine blk_alloc ?_ _)); refine blk_far ?_ NB115_116.out _; (with_reducible repeat (first | refine blk_drewN ?_ _ | refine blk_drew ?_ | refine blk_alloc ?_ _)); refine blk_put (cs := #[.int .i64 t135, .int .i64 t136, .int .i64 t137, .int .i64 t138, .int .i64 t139, .int .i64 t140, .int .i64 t141, .int .i64 t142, .int .i64 t143, .int .i64 x116009_1]) ?_ 9 _ rfl; (with_reducible repeat (first | refine blk_drewN ?_ _ | refine blk_drew ?_ | refine blk_alloc ?_ _)); refine blk_put (cs := #[.int .i64 t135, .int .i64 t136, .int .i64 t137, .int .i64 t138, .int .i64 t139, .int .i64 t140, .int .i64 t141, .int .i64 t142, .int .i64 x116008_1, .int .i64 x116009_1]) ?_ 8 _ rfl; (with_reducible repeat (first | refine blk_drewN ?_ _ | refine blk_drew ?_ | refine blk_alloc ?_ _)); refine blk_put (cs := #[.int .i64 t135, .int .i64 t136, .int .i64 t137, .int .i64 t138, .int .i64 t139, .int .i64 t140, .int .i64 t141, .int .i64 x116007_1, .int .i64 x116008_1, .int .i64 x116009_1]) ?_ 7 _ rfl; (with_reducible repeat (first | refine blk_drewN ?_ _ | refine blk_drew ?_ | refine blk_alloc ?_ _)); refine blk_put (cs := #[.int .i64 t135, .int .i64 t136, .int .i64 t137, .int .i64 t138, .int .i64 t139, .int .i64 t140, .int .i64 x116006_1, .int .i64 x116007_1, .int .i64 x116008_1, .int .i64 x116009_1]) ?_ 6 _ rfl; (with_reducible repeat (first | refine blk_drewN ?_ _ | refine blk_drew ?_ | refine blk_alloc ?_ _)); refine blk_put (cs := #[.int .i64 t135, .int .i64 t136, .int .i64 t137, .int .i64 t138, .int .i64 t139, .int .i64 x116005_1, .int .i64 x116006_1, .int .i64 x116007_1, .int .i64 x116008_1, .int .i64 x116009_1]) ?_ 5 _ rfl; (with_reducible repeat (first | refine blk_drewN ?_ _ | refine blk_drew ?_ | refine blk_alloc ?_ _)); refine blk_put (cs := #[.int .i64 t135, .int .i64 t136, .int .i64 t137, .int .i64 t138, .int .i64 x116004_1, .int .i64 x116005_1, .int .i64 x116006_1, .int .i64 x116007_1, .int .i64 x116008_1, .int .i64 x116009_1]) ?_ 4 _ rfl; (with_reducible repeat (first | refine blk_drewN ?_ _ | refine blk_drew ?_ | refine blk_alloc ?_ _)); refine blk_put (cs := #[.int .i64 t135, .int .i64 t136, .int .i64 t137, .int .i64 x116003_1, .int .i64 x116004_1, .int .i64 x116005_1, .int .i64 x116006_1, .int .i64 x116007_1, .int .i64 x116008_1, .int .i64 x116009_1]) ?_ 3 _ rfl; (with_reducible repeat (first | refine blk_drewN ?_ _ | refine blk_drew ?_ | refine blk_alloc ?_ _)); refine blk_put (cs := #[.int .i64 t135, .int .i64 t136, .int .i64 x116002_1, .int .i64 x116003_1, .int .i64 x116004_1, .int .i64 x116005_1, .int .i64 x116006_1, .int .i64 x116007_1, .int .i64 x116008_1, .int .i64 x116009_1]) ?_ 2 _ rfl; (with_reducible repeat (first | refine blk_drewN ?_ _ | refine blk_drew ?_ | refine blk_alloc ?_ _)); refine blk_put (cs := #[.int .i64 t135, .int .i64 x116001_1, .int .i64 x116002_1, .int .i64 x116003_1, .int .i64 x116004_1, .int .i64 x116005_1, .int .i64 x116006_1, .int .i64 x116007_1, .int .i64 x116008_1, .int .i64 x116009_1]) ?_ 1 _ rfl; (with_reducible repeat (first | refine blk_drewN ?_ _ | refine blk_drew ?_ | refine blk_alloc ?_ _)); refine blk_put (cs := #[.int .i64 x116000_49, .int .i64 x116001_1, .int .i64 x116002_1, .int .i64 x116003_1, .int .i64 x116004_1, .int .i64 x116005_1, .int .i64 x116006_1, .int .i64 x116007_1, .int .i64 x116008_1, .int .i64 x116009_1]) ?_ 0 _ rfl; (with_reducible repeat (first | refine blk_drewN ?_ _ | refine blk_drew ?_ | refine blk_alloc ?_ _)); refine blk_far ?_ NB115_114.out _; (with_reducible repeat (first | refine blk_drewN ?_ _ | refine blk_drew ?_ | refine blk_alloc ?_ _)); refine blk_far ?_ NB115_114.out _; (with_reducible repeat (first | refine blk_drewN ?_ _ | refine blk_drew ?_ | refine blk_alloc ?_ _)); refine blk_far ?_ NB115_114.out _; (with_reducible repeat (first | refine blk_drewN ?_ _ | refine blk_drew ?_ | refine blk_alloc ?_ _)); refine blk_far ?_ NB115_114.out _; (with_reducible repeat (first | refine blk_drewN ?_ _ | refine blk_drew ?_ | refine blk_alloc ?_ _)); refine blk_far ?_ NB115_114.out _; (with_reducible repeat (first | refine blk_drewN ?_ _ | refine blk_drew ?_ | refine blk_alloc ?_ _)); refine blk_far ?_ NB115_114.out _; (with_reducible repeat (first | refine blk_drewN ?_ _ | refine blk_drew ?_ | refine blk_alloc ?_ _)); refine blk_far ?_ NB115_114.out _; (with_reducible repeat (first | refine blk_drewN ?_ _ | refine blk_drew ?_ | refine blk_alloc ?_ _)); refine blk_far ?_ NB115_114.out _; (with_reducible repeat (first | refine blk_drewN ?_ _ | refine blk_drew ?_ | refine blk_alloc ?_ _)); refine blk_far ?_ NB115_114.out _; (with_reducible repeat (first | refine blk_drewN ?_ _ | refine blk_drew ?_ | refine blk_alloc ?_ _)); refine blk_far ?_ NB115_114.out _; (with_reducible repeat (first | refine blk_drewN ?_ _ | refine blk_drew ?_ | refine blk_alloc ?_ _)); exact BK115.out⟩, ⟨by (with_reducible repeat (first | refine blk_drewN ?_ _ | refine blk_drew ?_ | refine blk_alloc ?_ _)); refine blk_put (cs := #[.int .i64 t145, .int .i64 t146, .int .i64 t147, .int .i64 t148, .int .i64 t149, .int .i64 t150, .int .i64 t151, .int .i64 t152, .int .i64 t153, .int .i64 x117009_1]) ?_ 9 _ rfl; (with_reducible repeat (first | refine blk_drewN ?_ _ | refine blk_drew ?_ | refine blk_alloc ?_ _)); refine blk_put (cs := #[.int .i64 t145, .int .i64 t146, .int .i64 t147, .int .i64 t148, .int .i64 t149, .int .i64 t150, .int .i64 t151, .int .i64 t152, .int .i64 x117008_1, .int .i64 x117009_1]) ?_ 8 _ rfl; (with_reducible repeat (first | refine blk_drewN ?_ _ | refine blk_drew ?_ | refine blk_alloc ?_ _)); refine blk_put (cs := #[.int .i64 t145, .int .i64 t146, .int .i64 t147, .int .i64 t148, .int .i64 t149, .int .i64 t150, .int .i64 t151, .int .i64 x117007_1, .int .i64 x117008_1, .int .i64 x117009_1]) ?_ 7 _ rfl; (with_reducible repeat (first | refine blk_drewN ?_ _ | refine blk_drew ?_ | refine blk_alloc ?_ _)); refine blk_put (cs := #[.int .i64 t145, .int .i64 t146, .int .i64 t147, .int .i64 t148, .int .i64 t149, .int .i64 t150, .int .i64 x117006_1, .int .i64 x117007_1, .int .i64 x117008_1, .int .i64 x117009_1]) ?_ 6 _ rfl; (with_reducible repeat (first | refine blk_drewN ?_ _ | refine blk_drew ?_ | refine blk_alloc ?_ _)); refine blk_put (cs := #[.int .i64 t145, .int .i64 t146, .int .i64 t147, .int .i64 t148, .int .i64 t149, .int .i64 x117005_1, .int .i64 x117006_1, .int .i64 x117007_1, .int .i64 x117008_1, .int .i64 x117009_1]) ?_ 5 _ rfl; (with_reducible repeat (first | refine blk_drewN ?_ _ | refine blk_drew ?_ | refine blk_alloc ?_ _)); refine blk_put (cs := #[.int .i64 t145, .int .i64 t146, .int .i64 t147, .int .i64 t148, .int .i64 x117004_1, .int .i64 x117005_1, .int .i64 x117006_1, .int .i64 x117007_1, .int .i64 x117008_1, .int .i64 x117009_1]) ?_ 4 _ rfl; (with_reducible repeat (first | refine blk_drewN ?_ _ | refine blk_drew ?_ | refine blk_alloc ?_ _)); refine blk_put (cs := #[.int .i64 t145, .int .i64 t146, .int .i64 t147, .int .i64 x117003_1, .int .i64 x117004_1, .int .i64 x117005_1, .int .i64 x117006_1, .int .i64 x117007_1, .int .i64 x117008_1, .int .i64 x117009_1]) ?_ 3 _ rfl; (with_reducible repeat (first | refine blk_drewN ?_ _ | refine blk_drew ?_ | refine blk_alloc ?_ _)); refine blk_put (cs := #[.int .i64 t145, .int .i64 t146, .int .i64 x117002_1, .int .i64 x117003_1, .int .i64 x117004_1, .int .i64 x117005_1, .int .i64 x117006_1, .int .i64 x117007_1, .int .i64 x117008_1, .int .i64 x117009_1]) ?_ 2 _ rfl; (with_reducible repeat (first | refine blk_drewN ?_ _ | refine blk_drew ?_ | refine blk_alloc ?_ _)); refine blk_put (cs := #[.int .i64 t145, .int .i64 x117001_49, .int .i64 x117002_1, .int .i64 x117003_1, .int .i64 x117004_1, .int .i64 x117005_1, .int .i64 x117006_1, .int .i64 x117007_1, .int .i64 x117008_1, .int .i64 x117009_1]) ?_ 1 _ rfl; (with_reducible repeat (first | refine blk_drewN ?_ _ | refine blk_drew ?_ | refine blk_alloc ?_ _)); refine blk_put (cs := #[.int .i64 x117000_28, .int .i64 x117001_49, .int .i64 x117002_1, .int .i64 x117003_1, .int .i64 x117004_1, .int .i64 x117005_1, .int .i64 x117006_1, .int .i64 x117007_1, .int .i64 x117008_1, .int .i64 x117009_1]) ?_ 0 _ rfl; (with_reducible repeat (first | refine blk_drewN ?_ _ | refine blk_drew ?_ | refine blk_alloc ?_ _)); refine blk_far ?_ NB116_115.out _; (with_reducible repeat (first | refine blk_drewN ?_ _ | refine blk_drew ?_ | refine blk_alloc ?_ _)); refine blk_far ?_ NB116_115.out _; (with_reducible repeat (first | refine blk_drewN ?_ _ | refine blk_drew ?_ | refine blk_alloc ?_ _)); refine blk_far ?_ NB116_115.out _; (with_reducible repeat (first | refine blk_drewN ?_ _ | refine blk_drew ?_ | refine blk_alloc ?_ _)); refine blk_far ?_ NB116_115.out _; (with_reducible repeat (first | refine blk_drewN ?_ _ | refine blk_drew ?_ | refine blk_alloc ?_ _)); refine blk_far ?_ NB116_115.out _; (with_reducible repeat (first | refine blk_drewN ?_ _ | refine blk_drew ?_ | refine blk_alloc ?_ _)); refine blk_far ?_ NB116_115.out _; (with_reducible repeat (first | refine blk_drewN ?_ _ | refine blk_drew ?_ | refine blk_alloc ?_ _)); refine blk_far ?_ NB116_115.out _; (with_reducible repeat (first | refine blk_drewN ?_ _ | refine blk_drew ?_ | refine blk_alloc ?_ _)); refine blk_far ?_ NB116_115.out _; (with_reducible repeat (first | refine blk_drewN ?_ _ | refine blk_drew ?_ | refine blk_alloc ?_ _)); refine blk_far ?_ NB116_115.out _; (with_reducible repeat (first | refine blk_drewN ?_ _ | refine blk_drew ?_ | refine blk_alloc ?_ _)); refine blk_far ?_ NB116_115.out _; (with_reducible repeat (first | refine blk_drewN ?_ _ | refine blk_drew ?_ | refine blk_alloc ?_ _)); refine blk_far ?_ NB116_114.out _; (with_reducible repeat (first | refine blk_drewN ?_ _ | refine blk_drew ?_ | refine blk_alloc ?_ _)); refine blk_far ?_ NB116_114.out _; (with_reducible repeat (first | refine blk_drewN ?_ _ | refine blk_drew ?_ | refine blk_alloc ?_ _)); refine blk_far ?_ NB116_114.out _; (with_reducible repeat (first | refine blk_drewN ?_ _ | refine blk_drew ?_ | refine blk_alloc ?_ _)); refine blk_far ?_ NB116_114.out _; (with_reducible repeat (first | refine blk_drewN ?_ _ | refine blk_drew ?_ | refine blk_alloc ?_ _)); refine blk_far ?_ NB116_114.out _; (with_reducible repeat (first | refine blk_drewN ?_ _ | refine blk_drew ?_ | refine blk_alloc ?_ _)); refine blk_far ?_ NB116_114.out _; (with_reducible repeat (first | refine blk_drewN ?_ _ | refine blk_drew ?_ | refine blk_alloc ?_ _)); refine blk_far ?_ NB116_114.out _; (with_reducible repeat (first | refine blk_drewN ?_ _ | refine blk_drew ?_ | refine blk_alloc ?_ _)); refine blk_far ?_ NB116_114.out _; (with_reducible repeat (first | refine blk_drewN ?_ _ | refine blk_drew ?_ | refine blk_alloc ?_ _)); refine blk_far ?_ NB116_114.out _; (with_reducible repeat (first | refine blk_drewN ?_ _ | refine blk_drew ?_ | refine blk_alloc ?_ _)); refine blk_far ?_ NB116_114.out _; (with_reducible repeat (first | refine blk_drewN ?_ _ | refine blk_drew ?_ | refine blk_alloc ?_ _)); exact BK116.out⟩, ⟨by (with_reducible repeat (first | refine blk_drewN ?_ _ | refine blk_drew ?_ | refine blk_alloc ?_ _)); refine blk_far ?_ NB117_116.out _; (with_reducible repeat (first | refine blk_drewN ?_ _ | refine blk_drew ?_ | refine blk_alloc ?_ _)); refine blk_far ?_ NB117_116.out _; (with_reducible repeat (first | refine blk_drewN ?_ _ | refine blk_drew ?_ | refine blk_alloc ?_ _)); refine blk_far ?_ NB117_116.out _; (with_reducible repeat (first | refine blk_drewN ?_ _ | refine blk_drew ?_ | refine blk_alloc ?_ _)); refine blk_far ?_ NB117_116.out _; (with_reducible repeat (first | refine blk_drewN ?_ _ | refine blk_drew ?_ | refine blk_alloc ?_ _)); refine blk_far ?_ NB117_116.out _; (with_reducible repeat (first | refine blk_drewN ?_ _ | refine blk_drew ?_ | refine blk_alloc ?_ _)); refine blk_far ?_ NB117_116.out _; (with_reducible repeat (first | refine blk_drewN ?_ _ | refine blk_drew ?_ | refine blk_alloc ?_ _)); refine blk_far ?_ NB117_116.out _; (with_reducible repeat (first | refine blk_drewN ?_ _ | refine blk_drew ?_ | refine blk_alloc ?_ _)); refine blk_far ?_ NB117_116.out _; (with_reducible repeat (first | refine blk_drewN ?_ _ | refine blk_drew ?_ | refine blk_alloc ?_ _)); refine blk_far ?_ NB117_116.out _; (with_reducible repeat (first | refine blk_drewN ?_ _ | refine blk_drew ?_ | refine blk_alloc ?_ _)); refine blk_far ?_ NB117_116.out _; (with_reducible repeat (first | refine blk_drewN ?_ _ | refine blk_drew ?_ | refine blk_alloc ?_ _)); refine blk_far ?_ NB117_115.out _; (with_reducible repeat (first | refine blk_drewN ?_ _ | refine blk_drew ?_ | refine blk_alloc ?_ _)); refine blk_far ?_ NB117_115.out _; (with_reducible repeat (first | refine blk_drewN ?_ _ | refine blk_drew ?_ | refine blk_alloc ?_ _)); refine blk_far ?_ NB117_115.out _; (with_reducible repeat (first | refine blk_drewN ?_ _ | refine blk_drew ?_ | refine blk_alloc ?_ _)); refine blk_far ?_ NB117_115.out _; (with_reducible repeat (first | refine blk_drewN ?_ _ | refine blk_drew ?_ | refine blk_alloc ?_ _)); refine blk_far ?_ NB117_115.out _; (with_reducible repeat (first | refine blk_drewN ?_ _ | refine blk_drew ?_ | refine blk_alloc ?_ _)); refine blk_far ?_ NB117_115.out _; (with_reducible repeat (first | refine blk_drewN ?_ _ | refine blk_drew ?_ | refine blk_alloc ?_ _)); refine blk_far ?_ NB117_115.out _; (with_reducible repeat (first | refine blk_drewN ?_ _ | refine blk_drew ?_ | refine blk_alloc ?_ _)); refine blk_far ?_ NB117_115.out _; (with_reducible repeat (first | refine blk_drewN ?_ _ | refine blk_drew ?_ | refine blk_alloc ?_ _)); refine blk_far ?_ NB117_115.out _; (with_reducible repeat (first | refine blk_drewN ?_ _ | refine blk_drew ?_ | refine blk_alloc ?_ _)); refine blk_far ?_ NB117_115.out _; (with_reducible repeat (first | refine blk_drewN ?_ _ | refine blk_drew ?_ | refine blk_alloc ?_ _)); refine blk_far ?_ NB117_114.out _; (with_reducible repeat (first | refine blk_drewN ?_ _ | refine blk_drew ?_ | refine blk_alloc ?_ _)); refine blk_far ?_ NB117_114.out _; (with_reducible repeat (first | refine blk_drewN ?_ _ | refine blk_drew ?_ | refine blk_alloc ?_ _)); refine blk_far ?_ NB117_114.out _; (with_reducible repeat (first | refine blk_drewN ?_ _ | refine blk_drew ?_ | refine blk_alloc ?_ _)); refine blk_far ?_ NB117_114.out _; (with_reducible repeat (first | refine blk_drewN ?_ _ | refine blk_drew ?_ | refine blk_alloc ?_ _)); refine blk_far ?_ NB117_114.out _; (with_reducible repeat (first | refine blk_drewN ?_ _ | refine blk_drew ?_ | refine blk_alloc ?_ _)); refine blk_far ?_ NB117_114.out _; (with_reducible repeat (first | refine blk_drewN ?_ _ | refine blk_drew ?_ | refine blk_alloc ?_ _)); refine blk_far ?_ NB117_114.out _; (with_reducible repeat (first | refine blk_drewN ?_ _ | refine blk_drew ?_ | refine blk_alloc ?_ _)); refine blk_far ?_ NB117_114.out _; (with_reducible repeat (first | refine blk_drewN ?_ _ | refine blk_drew ?_ | refine blk_alloc ?_ _)); refine blk_far ?_ NB117_114.out _; (with_reducible repeat (first | refine blk_drewN ?_ _ | refine blk_drew ?_ | refine blk_alloc ?_ _)); refine blk_far ?_ NB117_114.out _; (with_reducible repeat (first | refine blk_drewN ?_ _ | refine blk_drew ?_ | refine blk_alloc ?_ _)); exact BK117.out⟩, ⟨by repeat (first | (with_reducible first | exact HB.out | apply below_alloc | apply pw_below_drewN | apply below_drew1 | refine below_set ?_ GE114.out | refine below_set ?_ GE115.out | refine below_set ?_ GE116.out | refine below_set ?_ GE117.out) | exact HB.out)⟩⟩
                ·
                 replace c97 := Bool.eq_false_iff.mpr c97
                 subst c97
                 have H1 : (ladderbacklaw09_CountRises.j4 kj49 l0 x7_1 x8_1 x9_1 x10_1 false x12_9 t125 t126 t127 t128 t129 t130 t131 t132 t133 t134 t135 t136 t137 t138 t139 t140 t141 t142 t143 t144 t145 t146 t147 t148 t149 t150 t151 t152 t153 t154 ((rd_T27 l0 x10_1).f0) ((rd_T27 l0 x10_1).f1)) = some r := by rw [if_neg (show ¬ (false = true) by decide)] at H; exact H
                 clear H
                 have H := H1
                 clear H1
                 have H' := Aside0.mk H
                 clear H
                 try go_wp2
                 repeat (go_quiet (fail); try go_wp2)
                 go_meet
                 case rel => exact ⟨_, (x7_1), (by first | rfl | (simp; done) | (simp [*]; done)), H', ⟨by have := HK1.out; have := HJ9.out; have := HJ28.out; have := HJ49.out; first | omega | exact Nat.le_refl _⟩, ⟨by (with_reducible repeat (first | refine blk_drewN ?_ _ | refine blk_drew ?_ | refine blk_alloc ?_ _)); refine blk_far ?_ NB114_116.out _; (with_reducible repeat (first | refine blk_drewN ?_ _ | refine blk_drew ?_ | refine blk_alloc ?_ _)); refine blk_far ?_ NB114_116.out _; (with_reducible repeat (first | refine blk_drewN ?_ _ | refine blk_drew ?_ | refine blk_alloc ?_ _)); refine blk_far ?_ NB114_116.out _; (with_reducible repeat (first | refine blk_drewN ?_ _ | refine blk_drew ?_ | refine blk_alloc ?_ _)); refine blk_far ?_ NB114_116.out _; (with_reducible repeat (first | refine blk_drewN ?_ _ | refine blk_drew ?_ | refine blk_alloc ?_ _)); refine blk_far ?_ NB114_116.out _; (with_reducible repeat (first | refine blk_drewN ?_ _ | refine blk_drew ?_ | refine blk_alloc ?_ _)); refine blk_far ?_ NB114_116.out _; (with_reducible repeat (first | refine blk_drewN ?_ _ | refine blk_drew ?_ | refine blk_alloc ?_ _)); refine blk_far ?_ NB114_116.out _; (with_reducible repeat (first | refine blk_drewN ?_ _ | refine blk_drew ?_ | refine blk_alloc ?_ _)); refine blk_far ?_ NB114_116.out _; (with_reducible repeat (first | refine blk_drewN ?_ _ | refine blk_drew ?_ | refine blk_alloc ?_ _)); refine blk_far ?_ NB114_116.out _; (with_reducible repeat (first | refine blk_drewN ?_ _ | refine blk_drew ?_ | refine blk_alloc ?_ _)); refine blk_far ?_ NB114_116.out _; (with_reducible repeat (first | refine blk_drewN ?_ _ | refine blk_drew ?_ | refine blk_alloc ?_ _)); refine blk_far ?_ NB114_115.out _; (with_reducible repeat (first | refine blk_drewN ?_ _ | refine blk_drew ?_ | refine blk_alloc ?_ _)); refine blk_far ?_ NB114_115.out _; (with_reducible repeat (first | refine blk_drewN ?_ _ | refine blk_drew ?_ | refine blk_alloc ?_ _)); refine blk_far ?_ NB114_115.out _; (with_reducible repeat (first | refine blk_drewN ?_ _ | refine blk_drew ?_ | refine blk_alloc ?_ _)); refine blk_far ?_ NB114_115.out _; (with_reducible repeat (first | refine blk_drewN ?_ _ | refine blk_drew ?_ | refine blk_alloc ?_ _)); refine blk_far ?_ NB114_115.out _; (with_reducible repeat (first | refine blk_drewN ?_ _ | refine blk_drew ?_ | refine blk_alloc ?_ _)); refine blk_far ?_ NB114_115.out _; (with_reducible repeat (first | refine blk_drewN ?_ _ | refine blk_drew ?_ | refine blk_alloc ?_ _)); refine blk_far ?_ NB114_115.out _; (with_reducible repeat (first | refine blk_drewN ?_ _ | refine blk_drew ?_ | refine blk_alloc ?_ _)); refine blk_far ?_ NB114_115.out _; (with_reducible repeat (first | refine blk_drewN ?_ _ | refine blk_drew ?_ | refine blk_alloc ?_ _)); refine blk_far ?_ NB114_115.out _; (with_reducible repeat (first | refine blk_drewN ?_ _ | refine blk_drew ?_ | refine blk_alloc ?_ _)); refine blk_far ?_ NB114_115.out _; (with_reducible repeat (first | refine blk_drewN ?_ _ | refine blk_drew ?_ | refine blk_alloc ?_ _)); refine blk_put (cs := #[.int .i64 t125, .int .i64 t126, .int .i64 t127, .int .i64 t128, .int .i64 t129, .int .i64 t130, .int .i64 t131, .int .i64 t132, .int .i64 t133, .int .i64 x115009_1]) ?_ 9 _ rfl; (with_reducible repeat (first | refine blk_drewN ?_ _ | refine blk_drew ?_ | refine blk_alloc ?_ _)); refine blk_put (cs := #[.int .i64 t125, .int .i64 t126, .int .i64 t127, .int .i64 t128, .int .i64 t129, .int .i64 t130, .int .i64 t131, .int .i64 t132, .int .i64 x115008_1, .int .i64 x115009_1]) ?_ 8 _ rfl; (with_reducible repeat (first | refine blk_drewN ?_ _ | refine blk_drew ?_ | refine blk_alloc ?_ _)); refine blk_put (cs := #[.int .i64 t125, .int .i64 t126, .int .i64 t127, .int .i64 t128, .int .i64 t129, .int .i64 t130, .int .i64 t131, .int .i64 x115007_1, .int .i64 x115008_1, .int .i64 x115009_1]) ?_ 7 _ rfl; (with_reducible repeat (first | refine blk_drewN ?_ _ | refine blk_drew ?_ | refine blk_alloc ?_ _)); refine blk_put (cs := #[.int .i64 t125, .int .i64 t126, .int .i64 t127, .int .i64 t128, .int .i64 t129, .int .i64 t130, .int .i64 x115006_1, .int .i64 x115007_1, .int .i64 x115008_1, .int .i64 x115009_1]) ?_ 6 _ rfl; (with_reducible repeat (first | refine blk_drewN ?_ _ | refine blk_drew ?_ | refine blk_alloc ?_ _)); refine blk_put (cs := #[.int .i64 t125, .int .i64 t126, .int .i64 t127, .int .i64 t128, .int .i64 t129, .int .i64 x115005_1, .int .i64 x115006_1, .int .i64 x115007_1, .int .i64 x115008_1, .int .i64 x115009_1]) ?_ 5 _ rfl; (with_reducible repeat (first | refine blk_drewN ?_ _ | refine blk_drew ?_ | refine blk_alloc ?_ _)); refine blk_put (cs := #[.int .i64 t125, .int .i64 t126, .int .i64 t127, .int .i64 t128, .int .i64 x115004_1, .int .i64 x115005_1, .int .i64 x115006_1, .int .i64 x115007_1, .int .i64 x115008_1, .int .i64 x115009_1]) ?_ 4 _ rfl; (with_reducible repeat (first | refine blk_drewN ?_ _ | refine blk_drew ?_ | refine blk_alloc ?_ _)); refine blk_put (cs := #[.int .i64 t125, .int .i64 t126, .int .i64 t127, .int .i64 x115003_1, .int .i64 x115004_1, .int .i64 x115005_1, .int .i64 x115006_1, .int .i64 x115007_1, .int .i64 x115008_1, .int .i64 x115009_1]) ?_ 3 _ rfl; (with_reducible repeat (first | refine blk_drewN ?_ _ | refine blk_drew ?_ | refine blk_alloc ?_ _)); refine blk_put (cs := #[.int .i64 t125, .int .i64 t126, .int .i64 x115002_1, .int .i64 x115003_1, .int .i64 x115004_1, .int .i64 x115005_1, .int .i64 x115006_1, .int .i64 x115007_1, .int .i64 x115008_1, .int .i64 x115009_1]) ?_ 2 _ rfl; (with_reducible repeat (first | refine blk_drewN ?_ _ | refine blk_drew ?_ | refine blk_alloc ?_ _)); refine blk_put (cs := #[.int .i64 t125, .int .i64 x115001_1, .int .i64 x115002_1, .int .i64 x115003_1, .int .i64 x115004_1, .int .i64 x115005_1, .int .i64 x115006_1, .int .i64 x115007_1, .int .i64 x115008_1, .int .i64 x115009_1]) ?_ 1 _ rfl; (with_reducible repeat (first | refine blk_drewN ?_ _ | refine blk_drew ?_ | refine blk_alloc ?_ _)); refine blk_put (cs := #[.int .i64 x115000_28, .int .i64 x115001_1, .int .i64 x115002_1, .int .i64 x115003_1, .int .i64 x115004_1, .int .i64 x115005_1, .int .i64 x115006_1, .int .i64 x115007_1, .int .i64 x115008_1, .int .i64 x115009_1]) ?_ 0 _ rfl; (with_reducible repeat (first | refine blk_drewN ?_ _ | refine blk_drew ?_ | refine blk_alloc ?_ _)); exact BK114.out⟩, ⟨by (with_reducible repeat (first | refine blk_drewN ?_ _ | refine blk_drew ?_ | refine blk_alloc ?_ _)); refine blk_far ?_ NB115_116.out _; (with_reducible repeat (first | refine blk_drewN ?_ _ | refine blk_drew ?_ | refine blk_alloc ?_ _)); refine blk_far ?_ NB115_116.out _; (with_reducible repeat (first | refine blk_drewN ?_ _ | refine blk_drew ?_ | refine blk_alloc ?_ _)); refine blk_far ?_ NB115_116.out _; (with_reducible repeat (first | refine blk_drewN ?_ _ | refine blk_drew ?_ | refine blk_alloc ?_ _)); refine blk_far ?_ NB115_116.out _; (with_reducible repeat (first | refine blk_drewN ?_ _ | refine blk_drew ?_ | refine blk_alloc ?_ _)); refine blk_far ?_ NB115_116.out _; (with_reducible repeat (first | refine blk_drewN ?_ _ | refine blk_drew ?_ | refine blk_alloc ?_ _)); refine blk_far ?_ NB115_116.out _; (with_reducible repeat (first | refine blk_drewN ?_ _ | refine blk_drew ?_ | refine blk_alloc ?_ _)); refine blk_far ?_ NB115_116.out _; (with_reducible repeat (first | refine blk_drewN ?_ _ | refine blk_drew ?_ | refine blk_alloc ?_ _)); refine blk_far ?_ NB115_116.out _; (with_reducible repeat (first | refine blk_drewN ?_ _ | refine blk_drew ?_ | refine blk_alloc ?_ _)); refine blk_far ?_ NB115_116.out _; (with_reducible repeat (first | refine blk_drewN ?_ _ | refine blk_drew ?_ | refine blk_alloc ?_ _)); refine blk_far ?_ NB115_116.out _; (with_reducible repeat (first | refine blk_drewN ?_ _ | refine blk_drew ?_ | refine blk_alloc ?_ _)); refine blk_put (cs := #[.int .i64 t135, .int .i64 t136, .int .i64 t137, .int .i64 t138, .int .i64 t139, .int .i64 t140, .int .i64 t141, .int .i64 t142, .int .i64 t143, .int .i64 x116009_1]) ?_ 9 _ rfl; (with_reducible repeat (first | refine blk_drewN ?_ _ | refine blk_drew ?_ | refine blk_alloc ?_ _)); refine blk_put (cs := #[.int .i64 t135, .int .i64 t136, .int .i64 t137, .int .i64 t138, .int .i64 t139, .int .i64 t140, .int .i64 t141, .int .i64 t142, .int .i64 x116008_1, .int .i64 x116009_1]) ?_ 8 _ rfl; (with_reducible repeat (first | refine blk_drewN ?_ _ | refine blk_drew ?_ | refine blk_alloc ?_ _)); refine blk_put (cs := #[.int .i64 t135, .int .i64 t136, .int .i64 t137, .int .i64 t138, .int .i64 t139, .int .i64 t140, .int .i64 t141, .int .i64 x116007_1, .int .i64 x116008_1, .int .i64 x116009_1]) ?_ 7 _ rfl; (with_reducible repeat (first | refine blk_drewN ?_ _ | refine blk_drew ?_ | refine blk_alloc ?_ _)); refine blk_put (cs := #[.int .i64 t135, .int .i64 t136, .int .i64 t137, .int .i64 t138, .int .i64 t139, .int .i64 t140, .int .i64 x116006_1, .int .i64 x116007_1, .int .i64 x116008_1, .int .i64 x116009_1]) ?_ 6 _ rfl; (with_reducible repeat (first | refine blk_drewN ?_ _ | refine blk_drew ?_ | refine blk_alloc ?_ _)); refine blk_put (cs := #[.int .i64 t135, .int .i64 t136, .int .i64 t137, .int .i64 t138, .int .i64 t139, .int .i64 x116005_1, .int .i64 x116006_1, .int .i64 x116007_1, .int .i64 x116008_1, .int .i64 x116009_1]) ?_ 5 _ rfl; (with_reducible repeat (first | refine blk_drewN ?_ _ | refine blk_drew ?_ | refine blk_alloc ?_ _)); refine blk_put (cs := #[.int .i64 t135, .int .i64 t136, .int .i64 t137, .int .i64 t138, .int .i64 x116004_1, .int .i64 x116005_1, .int .i64 x116006_1, .int .i64 x116007_1, .int .i64 x116008_1, .int .i64 x116009_1]) ?_ 4 _ rfl; (with_reducible repeat (first | refine blk_drewN ?_ _ | refine blk_drew ?_ | refine blk_alloc ?_ _)); refine blk_put (cs := #[.int .i64 t135, .int .i64 t136, .int .i64 t137, .int .i64 x116003_1, .int .i64 x116004_1, .int .i64 x116005_1, .int .i64 x116006_1, .int .i64 x116007_1, .int .i64 x116008_1, .int .i64 x116009_1]) ?_ 3 _ rfl; (with_reducible repeat (first | refine blk_drewN ?_ _ | refine blk_drew ?_ | refine blk_alloc ?_ _)); refine blk_put (cs := #[.int .i64 t135, .int .i64 t136, .int .i64 x116002_1, .int .i64 x116003_1, .int .i64 x116004_1, .int .i64 x116005_1, .int .i64 x116006_1, .int .i64 x116007_1, .int .i64 x116008_1, .int .i64 x116009_1]) ?_ 2 _ rfl; (with_reducible repeat (first | refine blk_drewN ?_ _ | refine blk_drew ?_ | refine blk_alloc ?_ _)); refine blk_put (cs := #[.int .i64 t135, .int .i64 x116001_1, .int .i64 x116002_1, .int .i64 x116003_1, .int .i64 x116004_1, .int .i64 x116005_1, .int .i64 x116006_1, .int .i64 x116007_1, .int .i64 x116008_1, .int .i64 x116009_1]) ?_ 1 _ rfl; (with_reducible repeat (first | refine blk_drewN ?_ _ | refine blk_drew ?_ | refine blk_alloc ?_ _)); refine blk_put (cs := #[.int .i64 x116000_49, .int .i64 x116001_1, .int .i64 x116002_1, .int .i64 x116003_1, .int .i64 x116004_1, .int .i64 x116005_1, .int .i64 x116006_1, .int .i64 x116007_1, .int .i64 x116008_1, .int .i64 x116009_1]) ?_ 0 _ rfl; (with_reducible repeat (first | refine blk_drewN ?_ _ | refine blk_drew ?_ | refine blk_alloc ?_ _)); refine blk_far ?_ NB115_114.out _; (with_reducible repeat (first | refine blk_drewN ?_ _ | refine blk_drew ?_ | refine blk_alloc ?_ _)); refine blk_far ?_ NB115_114.out _; (with_reducible repeat (first | refine blk_drewN ?_ _ | refine blk_drew ?_ | refine blk_alloc ?_ _)); refine blk_far ?_ NB115_114.out _; (with_reducible repeat (first | refine blk_drewN ?_ _ | refine blk_drew ?_ | refine blk_alloc ?_ _)); refine blk_far ?_ NB115_114.out _; (with_reducible repeat (first | refine blk_drewN ?_ _ | refine blk_drew ?_ | refine blk_alloc ?_ _)); refine blk_far ?_ NB115_114.out _; (with_reducible repeat (first | refine blk_drewN ?_ _ | refine blk_drew ?_ | refine blk_alloc ?_ _)); refine blk_far ?_ NB115_114.out _; (with_reducible repeat (first | refine blk_drewN ?_ _ | refine blk_drew ?_ | refine blk_alloc ?_ _)); refine blk_far ?_ NB115_114.out _; (with_reducible repeat (first | refine blk_drewN ?_ _ | refine blk_drew ?_ | refine blk_alloc ?_ _)); refine blk_far ?_ NB115_114.out _; (with_reducible repeat (first | refine blk_drewN ?_ _ | refine blk_drew ?_ | refine blk_alloc ?_ _)); refine blk_far ?_ NB115_114.out _; (with_reducible repeat (first | refine blk_drewN ?_ _ | refine blk_drew ?_ | refine blk_alloc ?_ _)); refine blk_far ?_ NB115_114.out _; (with_reducible repeat (first | refine blk_drewN ?_ _ | refine blk_drew ?_ | refine blk_alloc ?_ _)); exact BK115.out⟩, ⟨by (with_reducible repeat (first | refine blk_drewN ?_ _ | refine blk_drew ?_ | refine blk_alloc ?_ _)); refine blk_put (cs := #[.int .i64 t145, .int .i64 t146, .int .i64 t147, .int .i64 t148, .int .i64 t149, .int .i64 t150, .int .i64 t151, .int .i64 t152, .int .i64 t153, .int .i64 x117009_1]) ?_ 9 _ rfl; (with_reducible repeat (first | refine blk_drewN ?_ _ | refine blk_drew ?_ | refine blk_alloc ?_ _)); refine blk_put (cs := #[.int .i64 t145, .int .i64 t146, .int .i64 t147, .int .i64 t148, .int .i64 t149, .int .i64 t150, .int .i64 t151, .int .i64 t152, .int .i64 x117008_1, .int .i64 x117009_1]) ?_ 8 _ rfl; (with_reducible repeat (first | refine blk_drewN ?_ _ | refine blk_drew ?_ | refine blk_alloc ?_ _)); refine blk_put (cs := #[.int .i64 t145, .int .i64 t146, .int .i64 t147, .int .i64 t148, .int .i64 t149, .int .i64 t150, .int .i64 t151, .int .i64 x117007_1, .int .i64 x117008_1, .int .i64 x117009_1]) ?_ 7 _ rfl; (with_reducible repeat (first | refine blk_drewN ?_ _ | refine blk_drew ?_ | refine blk_alloc ?_ _)); refine blk_put (cs := #[.int .i64 t145, .int .i64 t146, .int .i64 t147, .int .i64 t148, .int .i64 t149, .int .i64 t150, .int .i64 x117006_1, .int .i64 x117007_1, .int .i64 x117008_1, .int .i64 x117009_1]) ?_ 6 _ rfl; (with_reducible repeat (first | refine blk_drewN ?_ _ | refine blk_drew ?_ | refine blk_alloc ?_ _)); refine blk_put (cs := #[.int .i64 t145, .int .i64 t146, .int .i64 t147, .int .i64 t148, .int .i64 t149, .int .i64 x117005_1, .int .i64 x117006_1, .int .i64 x117007_1, .int .i64 x117008_1, .int .i64 x117009_1]) ?_ 5 _ rfl; (with_reducible repeat (first | refine blk_drewN ?_ _ | refine blk_drew ?_ | refine blk_alloc ?_ _)); refine blk_put (cs := #[.int .i64 t145, .int .i64 t146, .int .i64 t147, .int .i64 t148, .int .i64 x117004_1, .int .i64 x117005_1, .int .i64 x117006_1, .int .i64 x117007_1, .int .i64 x117008_1, .int .i64 x117009_1]) ?_ 4 _ rfl; (with_reducible repeat (first | refine blk_drewN ?_ _ | refine blk_drew ?_ | refine blk_alloc ?_ _)); refine blk_put (cs := #[.int .i64 t145, .int .i64 t146, .int .i64 t147, .int .i64 x117003_1, .int .i64 x117004_1, .int .i64 x117005_1, .int .i64 x117006_1, .int .i64 x117007_1, .int .i64 x117008_1, .int .i64 x117009_1]) ?_ 3 _ rfl; (with_reducible repeat (first | refine blk_drewN ?_ _ | refine blk_drew ?_ | refine blk_alloc ?_ _)); refine blk_put (cs := #[.int .i64 t145, .int .i64 t146, .int .i64 x117002_1, .int .i64 x117003_1, .int .i64 x117004_1, .int .i64 x117005_1, .int .i64 x117006_1, .int .i64 x117007_1, .int .i64 x117008_1, .int .i64 x117009_1]) ?_ 2 _ rfl; (with_reducible repeat (first | refine blk_drewN ?_ _ | refine blk_drew ?_ | refine blk_alloc ?_ _)); refine blk_put (cs := #[.int .i64 t145, .int .i64 x117001_49, .int .i64 x117002_1, .int .i64 x117003_1, .int .i64 x117004_1, .int .i64 x117005_1, .int .i64 x117006_1, .int .i64 x117007_1, .int .i64 x117008_1, .int .i64 x117009_1]) ?_ 1 _ rfl; (with_reducible repeat (first | refine blk_drewN ?_ _ | refine blk_drew ?_ | refine blk_alloc ?_ _)); refine blk_put (cs := #[.int .i64 x117000_28, .int .i64 x117001_49, .int .i64 x117002_1, .int .i64 x117003_1, .int .i64 x117004_1, .int .i64 x117005_1, .int .i64 x117006_1, .int .i64 x117007_1, .int .i64 x117008_1, .int .i64 x117009_1]) ?_ 0 _ rfl; (with_reducible repeat (first | refine blk_drewN ?_ _ | refine blk_drew ?_ | refine blk_alloc ?_ _)); refine blk_far ?_ NB116_115.out _; (with_reducible repeat (first | refine blk_drewN ?_ _ | refine blk_drew ?_ | refine blk_alloc ?_ _)); refine blk_far ?_ NB116_115.out _; (with_reducible repeat (first | refine blk_drewN ?_ _ | refine blk_drew ?_ | refine blk_alloc ?_ _)); refine blk_far ?_ NB116_115.out _; (with_reducible repeat (first | refine blk_drewN ?_ _ | refine blk_drew ?_ | refine blk_alloc ?_ _)); refine blk_far ?_ NB116_115.out _; (with_reducible repeat (first | refine blk_drewN ?_ _ | refine blk_drew ?_ | refine blk_alloc ?_ _)); refine blk_far ?_ NB116_115.out _; (with_reducible repeat (first | refine blk_drewN ?_ _ | refine blk_drew ?_ | refine blk_alloc ?_ _)); refine blk_far ?_ NB116_115.out _; (with_reducible repeat (first | refine blk_drewN ?_ _ | refine blk_drew ?_ | refine blk_alloc ?_ _)); refine blk_far ?_ NB116_115.out _; (with_reducible repeat (first | refine blk_drewN ?_ _ | refine blk_drew ?_ | refine blk_alloc ?_ _)); refine blk_far ?_ NB116_115.out _; (with_reducible repeat (first | refine blk_drewN ?_ _ | refine blk_drew ?_ | refine blk_alloc ?_ _)); refine blk_far ?_ NB116_115.out _; (with_reducible repeat (first | refine blk_drewN ?_ _ | refine blk_drew ?_ | refine blk_alloc ?_ _)); refine blk_far ?_ NB116_115.out _; (with_reducible repeat (first | refine blk_drewN ?_ _ | refine blk_drew ?_ | refine blk_alloc ?_ _)); refine blk_far ?_ NB116_114.out _; (with_reducible repeat (first | refine blk_drewN ?_ _ | refine blk_drew ?_ | refine blk_alloc ?_ _)); refine blk_far ?_ NB116_114.out _; (with_reducible repeat (first | refine blk_drewN ?_ _ | refine blk_drew ?_ | refine blk_alloc ?_ _)); refine blk_far ?_ NB116_114.out _; (with_reducible repeat (first | refine blk_drewN ?_ _ | refine blk_drew ?_ | refine blk_alloc ?_ _)); refine blk_far ?_ NB116_114.out _; (with_reducible repeat (first | refine blk_drewN ?_ _ | refine blk_drew ?_ | refine blk_alloc ?_ _)); refine blk_far ?_ NB116_114.out _; (with_reducible repeat (first | refine blk_drewN ?_ _ | refine blk_drew ?_ | refine blk_alloc ?_ _)); refine blk_far ?_ NB116_114.out _; (with_reducible repeat (first | refine blk_drewN ?_ _ | refine blk_drew ?_ | refine blk_alloc ?_ _)); refine blk_far ?_ NB116_114.out _; (with_reducible repeat (first | refine blk_drewN ?_ _ | refine blk_drew ?_ | refine blk_alloc ?_ _)); refine blk_far ?_ NB116_114.out _; (with_reducible repeat (first | refine blk_drewN ?_ _ | refine blk_drew ?_ | refine blk_alloc ?_ _)); refine blk_far ?_ NB116_114.out _; (with_reducible repeat (first | refine blk_drewN ?_ _ | refine blk_drew ?_ | refine blk_alloc ?_ _)); refine blk_far ?_ NB116_114.out _; (with_reducible repeat (first | refine blk_drewN ?_ _ | refine blk_drew ?_ | refine blk_alloc ?_ _)); exact BK116.out⟩, ⟨by (with_reducible repeat (first | refine blk_drewN ?_ _ | refine blk_drew ?_ | refine blk_alloc ?_ _)); refine blk_far ?_ NB117_116.out _; (with_reducible repeat (first | refine blk_drewN ?_ _ | refine blk_drew ?_ | refine blk_alloc ?_ _)); refine blk_far ?_ NB117_116.out _; (with_reducible repeat (first | refine blk_drewN ?_ _ | refine blk_drew ?_ | refine blk_alloc ?_ _)); refine blk_far ?_ NB117_116.out _; (with_reducible repeat (first | refine blk_drewN ?_ _ | refine blk_drew ?_ | refine blk_alloc ?_ _)); refine blk_far ?_ NB117_116.out _; (with_reducible repeat (first | refine blk_drewN ?_ _ | refine blk_drew ?_ | refine blk_alloc ?_ _)); refine blk_far ?_ NB117_116.out _; (with_reducible repeat (first | refine blk_drewN ?_ _ | refine blk_drew ?_ | refine blk_alloc ?_ _)); refine blk_far ?_ NB117_116.out _; (with_reducible repeat (first | refine blk_drewN ?_ _ | refine blk_drew ?_ | refine blk_alloc ?_ _)); refine blk_far ?_ NB117_116.out _; (with_reducible repeat (first | refine blk_drewN ?_ _ | refine blk_drew ?_ | refine blk_alloc ?_ _)); refine blk_far ?_ NB117_116.out _; (with_reducible repeat (first | refine blk_drewN ?_ _ | refine blk_drew ?_ | refine blk_alloc ?_ _)); refine blk_far ?_ NB117_116.out _; (with_reducible repeat (first | refine blk_drewN ?_ _ | refine blk_drew ?_ | refine blk_alloc ?_ _)); refine blk_far ?_ NB117_116.out _; (with_reducible repeat (first | refine blk_drewN ?_ _ | refine blk_drew ?_ | refine blk_alloc ?_ _)); refine blk_far ?_ NB117_115.out _; (with_reducible repeat (first | refine blk_drewN ?_ _ | refine blk_drew ?_ | refine blk_alloc ?_ _)); refine blk_far ?_ NB117_115.out _; (with_reducible repeat (first | refine blk_drewN ?_ _ | refine blk_drew ?_ | refine blk_alloc ?_ _)); refine blk_far ?_ NB117_115.out _; (with_reducible repeat (first | refine blk_drewN ?_ _ | refine blk_drew ?_ | refine blk_alloc ?_ _)); refine blk_far ?_ NB117_115.out _; (with_reducible repeat (first | refine blk_drewN ?_ _ | refine blk_drew ?_ | refine blk_alloc ?_ _)); refine blk_far ?_ NB117_115.out _; (with_reducible repeat (first | refine blk_drewN ?_ _ | refine blk_drew ?_ | refine blk_alloc ?_ _)); refine blk_far ?_ NB117_115.out _; (with_reducible repeat (first | refine blk_drewN ?_ _ | refine blk_drew ?_ | refine blk_alloc ?_ _)); refine blk_far ?_ NB117_115.out _; (with_reducible repeat (first | refine blk_drewN ?_ _ | refine blk_drew ?_ | refine blk_alloc ?_ _)); refine blk_far ?_ NB117_115.out _; (with_reducible repeat (first | refine blk_drewN ?_ _ | refine blk_drew ?_ | refine blk_alloc ?_ _)); refine blk_far ?_ NB117_115.out _; (with_reducible repeat (first | refine blk_drewN ?_ _ | refine blk_drew ?_ | refine blk_alloc ?_ _)); refine blk_far ?_ NB117_115.out _; (with_reducible repeat (first | refine blk_drewN ?_ _ | refine blk_drew ?_ | refine blk_alloc ?_ _)); refine blk_far ?_ NB117_114.out _; (with_reducible repeat (first | refine blk_drewN ?_ _ | refine blk_drew ?_ | refine blk_alloc ?_ _)); refine blk_far ?_ NB117_114.out _; (with_reducible repeat (first | refine blk_drewN ?_ _ | refine blk_drew ?_ | refine blk_alloc ?_ _)); refine blk_far ?_ NB117_114.out _; (with_reducible repeat (first | refine blk_drewN ?_ _ | refine blk_drew ?_ | refine blk_alloc ?_ _)); refine blk_far ?_ NB117_114.out _; (with_reducible repeat (first | refine blk_drewN ?_ _ | refine blk_drew ?_ | refine blk_alloc ?_ _)); refine blk_far ?_ NB117_114.out _; (with_reducible repeat (first | refine blk_drewN ?_ _ | refine blk_drew ?_ | refine blk_alloc ?_ _)); refine blk_far ?_ NB117_114.out _; (with_reducible repeat (first | refine blk_drewN ?_ _ | refine blk_drew ?_ | refine blk_alloc ?_ _)); refine blk_far ?_ NB117_114.out _; (with_reducible repeat (first | refine blk_drewN ?_ _ | refine blk_drew ?_ | refine blk_alloc ?_ _)); refine blk_far ?_ NB117_114.out _; (with_reducible repeat (first | refine blk_drewN ?_ _ | refine blk_drew ?_ | refine blk_alloc ?_ _)); refine blk_far ?_ NB117_114.out _; (with_reducible repeat (first | refine blk_drewN ?_ _ | refine blk_drew ?_ | refine blk_alloc ?_ _)); refine blk_far ?_ NB117_114.out _; (with_reducible repeat (first | refine blk_drewN ?_ _ | refine blk_drew ?_ | refine blk_alloc ?_ _)); exact BK117.out⟩, ⟨by repeat (first | (with_reducible first | exact HB.out | apply below_alloc | apply pw_below_drewN | apply below_drew1 | refine below_set ?_ GE114.out | refine below_set ?_ GE115.out | refine below_set ?_ GE116.out | refine below_set ?_ GE117.out) | exact HB.out)⟩⟩
               case rest =>
                clear HC62
                obtain ⟨kq, x7_61, rfl, HA, HJ61, BK114, BK115, BK116, BK117, HB⟩ := hcut
                cases kq with
                | zero => exact absurd HA.out (by simp [ladderbacklaw09_CountRises.j4])
                | succ kj61 =>
                 have H := HA.out
                 clear HA
                 simp only [ladderbacklaw09_CountRises.j4] at H
                 have HC98 := Aside0.mk H
                 clear H
                 go_upto_if 82 with (fail)
                 repeat (go_quiet (fail); go_upto_if 82 with (fail))
                 go_cut [8] (fun v8 wc => ∃ (kq : Nat) (x8_97 : Int), v8 = .int .i64 x8_97 ∧ Aside0 (ladderbacklaw09_CountRises.j5 kq l0 x7_61 x8_97 x9_1 x10_1 x11_9 x12_9 t125 t126 t127 t128 t129 t130 t131 t132 t133 t134 t135 t136 t137 t138 t139 t140 t141 t142 t143 t144 t145 t146 t147 t148 t149 t150 t151 t152 t153 t154 ((rd_T27 l0 x10_1).f0) ((rd_T27 l0 x10_1).f1) = some r) ∧ Aside0 (kq ≤ kj61) ∧ Aside0 (wc.heap[gb114]? = some (.cells #[.int .i64 t125, .int .i64 t126, .int .i64 t127, .int .i64 t128, .int .i64 t129, .int .i64 t130, .int .i64 t131, .int .i64 t132, .int .i64 t133, .int .i64 t134] 26 (0, 0))) ∧ Aside0 (wc.heap[gb115]? = some (.cells #[.int .i64 t135, .int .i64 t136, .int .i64 t137, .int .i64 t138, .int .i64 t139, .int .i64 t140, .int .i64 t141, .int .i64 t142, .int .i64 t143, .int .i64 t144] 26 (0, 0))) ∧ Aside0 (wc.heap[gb116]? = some (.cells #[.int .i64 t145, .int .i64 t146, .int .i64 t147, .int .i64 t148, .int .i64 t149, .int .i64 t150, .int .i64 t151, .int .i64 t152, .int .i64 t153, .int .i64 t154] 26 (0, 0))) ∧ Aside0 (wc.heap[gb117]? = some (.cells #[.bool ((rd_T27 l0 x10_1).f0), .bool ((rd_T27 l0 x10_1).f1)] 27 (0, 0))) ∧ Aside0 (Below w.heap.size w wc))
                 case first =>
                  have H := HC98.out
                  clear HC98
                  by_cases c99 : x12_9 = true
                  ·
                   subst c99
                   have H1 : (ladderbacklaw09_CountRises.j5 kj61 l0 x7_61 (wrap64 (x8_1 + 1)) x9_1 x10_1 x11_9 true t125 t126 t127 t128 t129 t130 t131 t132 t133 t134 t135 t136 t137 t138 t139 t140 t141 t142 t143 t144 t145 t146 t147 t148 t149 t150 t151 t152 t153 t154 ((rd_T27 l0 x10_1).f0) ((rd_T27 l0 x10_1).f1)) = some r := by rw [if_pos rfl] at H; exact H
                   clear H
                   have H := H1
                   clear H1
                   have H' := Aside0.mk H
                   clear H
                   try go_wp2
                   repeat (go_quiet (fail); try go_wp2)
                   go_meet
                   case rel => exact ⟨_, (wrap64 (x8_1 + 1)), (by first | rfl | (simp; done) | (simp [*]; done)), H', ⟨by have := HK1.out; have := HJ9.out; have := HJ28.out; have := HJ49.out; have := HJ61.out; first | omega | exact Nat.le_refl _⟩, ⟨by (with_reducible repeat (first | refine blk_drewN ?_ _ | refine blk_drew ?_ | refine blk_alloc ?_ _)); exact BK114.out⟩, ⟨by (with_reducible repeat (first | refine blk_drewN ?_ _ | refine blk_drew ?_ | refine blk_alloc ?_ _)); exact BK115.out⟩, ⟨by (with_reducible repeat (first | refine blk_drewN ?_ _ | refine blk_drew ?_ | refine blk_alloc ?_ _)); exact BK116.out⟩, ⟨by (with_reducible repeat (first | refine blk_drewN ?_ _ | refine blk_drew ?_ | refine blk_alloc ?_ _)); exact BK117.out⟩, ⟨by repeat (first | (with_reducible first | exact HB.out | apply below_alloc | apply pw_below_drewN | apply below_drew1 | refine below_set ?_ GE114.out | refine below_set ?_ GE115.out | refine below_set ?_ GE116.out | refine below_set ?_ GE117.out) | exact HB.out)⟩⟩
                  ·
                   replace c99 := Bool.eq_false_iff.mpr c99
                   subst c99
                   have H1 : (ladderbacklaw09_CountRises.j5 kj61 l0 x7_61 x8_1 x9_1 x10_1 x11_9 false t125 t126 t127 t128 t129 t130 t131 t132 t133 t134 t135 t136 t137 t138 t139 t140 t141 t142 t143 t144 t145 t146 t147 t148 t149 t150 t151 t152 t153 t154 ((rd_T27 l0 x10_1).f0) ((rd_T27 l0 x10_1).f1)) = some r := by rw [if_neg (show ¬ (false = true) by decide)] at H; exact H
                   clear H
                   have H := H1
                   clear H1
                   have H' := Aside0.mk H
                   clear H
                   try go_wp2
                   repeat (go_quiet (fail); try go_wp2)
                   go_meet
                   case rel => exact ⟨_, (x8_1), (by first | rfl | (simp; done) | (simp [*]; done)), H', ⟨by have := HK1.out; have := HJ9.out; have := HJ28.out; have := HJ49.out; have := HJ61.out; first | omega | exact Nat.le_refl _⟩, ⟨by (with_reducible repeat (first | refine blk_drewN ?_ _ | refine blk_drew ?_ | refine blk_alloc ?_ _)); exact BK114.out⟩, ⟨by (with_reducible repeat (first | refine blk_drewN ?_ _ | refine blk_drew ?_ | refine blk_alloc ?_ _)); exact BK115.out⟩, ⟨by (with_reducible repeat (first | refine blk_drewN ?_ _ | refine blk_drew ?_ | refine blk_alloc ?_ _)); exact BK116.out⟩, ⟨by (with_reducible repeat (first | refine blk_drewN ?_ _ | refine blk_drew ?_ | refine blk_alloc ?_ _)); exact BK117.out⟩, ⟨by repeat (first | (with_reducible first | exact HB.out | apply below_alloc | apply pw_below_drewN | apply below_drew1 | refine below_set ?_ GE114.out | refine below_set ?_ GE115.out | refine below_set ?_ GE116.out | refine below_set ?_ GE117.out) | exact HB.out)⟩⟩
                 case rest =>
                  clear HC98
                  obtain ⟨kq, x8_97, rfl, HA, HJ97, BK114, BK115, BK116, BK117, HB⟩ := hcut
                  cases kq with
                  | zero => exact absurd HA.out (by simp [ladderbacklaw09_CountRises.j5])
                  | succ kj97 =>
                   have H := HA.out
                   clear HA
                   simp only [ladderbacklaw09_CountRises.j5] at H
                   have HC100 := Aside0.mk H
                   clear H
                   go_upto_region 26 with (fail)
                   repeat (go_quiet (fail); go_upto_region 26 with (fail))
                   go_cut [89] (fun v89 wc => ∃ (kq : Nat) (x89_99 : Bool), v89 = .bool x89_99 ∧ Aside0 (ladderbacklaw09_CountRises.j6 kq l0 x7_61 x8_97 x9_1 x10_1 x11_9 x12_9 x89_99 t125 t126 t127 t128 t129 t130 t131 t132 t133 t134 t135 t136 t137 t138 t139 t140 t141 t142 t143 t144 t145 t146 t147 t148 t149 t150 t151 t152 t153 t154 ((rd_T27 l0 x10_1).f0) ((rd_T27 l0 x10_1).f1) = some r) ∧ Aside0 (kq ≤ kj97) ∧ Aside0 (wc.heap[gb114]? = some (.cells #[.int .i64 t125, .int .i64 t126, .int .i64 t127, .int .i64 t128, .int .i64 t129, .int .i64 t130, .int .i64 t131, .int .i64 t132, .int .i64 t133, .int .i64 t134] 26 (0, 0))) ∧ Aside0 (wc.heap[gb115]? = some (.cells #[.int .i64 t135, .int .i64 t136, .int .i64 t137, .int .i64 t138, .int .i64 t139, .int .i64 t140, .int .i64 t141, .int .i64 t142, .int .i64 t143, .int .i64 t144] 26 (0, 0))) ∧ Aside0 (wc.heap[gb116]? = some (.cells #[.int .i64 t145, .int .i64 t146, .int .i64 t147, .int .i64 t148, .int .i64 t149, .int .i64 t150, .int .i64 t151, .int .i64 t152, .int .i64 t153, .int .i64 t154] 26 (0, 0))) ∧ Aside0 (wc.heap[gb117]? = some (.cells #[.bool ((rd_T27 l0 x10_1).f0), .bool ((rd_T27 l0 x10_1).f1)] 27 (0, 0))) ∧ Aside0 (Below w.heap.size w wc))
                   case first =>
                    have H := HC100.out
                    clear HC100
                    by_cases c101 : x11_9 = true
                    ·
                     subst c101
                     have H1 : (ladderbacklaw09_CountRises.j6 kj97 l0 x7_61 x8_97 x9_1 x10_1 true x12_9 (!x12_9) t125 t126 t127 t128 t129 t130 t131 t132 t133 t134 t135 t136 t137 t138 t139 t140 t141 t142 t143 t144 t145 t146 t147 t148 t149 t150 t151 t152 t153 t154 ((rd_T27 l0 x10_1).f0) ((rd_T27 l0 x10_1).f1)) = some r := by rw [if_pos rfl] at H; exact H
                     clear H
                     have H := H1
                     clear H1
                     have H' := Aside0.mk H
                     clear H
                     try go_wp2
                     repeat (go_quiet (fail); try go_wp2)
                     go_meet
                     case rel => exact ⟨_, (!x12_9), (by first | rfl | (simp; done) | (simp [*]; done)), H', ⟨by have := HK1.out; have := HJ9.out; have := HJ28.out; have := HJ49.out; have := HJ61.out; have := HJ97.out; first | omega | exact Nat.le_refl _⟩, ⟨by (with_reducible repeat (first | refine blk_drewN ?_ _ | refine blk_drew ?_ | refine blk_alloc ?_ _)); exact BK114.out⟩, ⟨by (with_reducible repeat (first | refine blk_drewN ?_ _ | refine blk_drew ?_ | refine blk_alloc ?_ _)); exact BK115.out⟩, ⟨by (with_reducible repeat (first | refine blk_drewN ?_ _ | refine blk_drew ?_ | refine blk_alloc ?_ _)); exact BK116.out⟩, ⟨by (with_reducible repeat (first | refine blk_drewN ?_ _ | refine blk_drew ?_ | refine blk_alloc ?_ _)); exact BK117.out⟩, ⟨by repeat (first | (with_reducible first | exact HB.out | apply below_alloc | apply pw_below_drewN | apply below_drew1 | refine below_set ?_ GE114.out | refine below_set ?_ GE115.out | refine below_set ?_ GE116.out | refine below_set ?_ GE117.out) | exact HB.out)⟩⟩
                    ·
                     replace c101 := Bool.eq_false_iff.mpr c101
                     subst c101
                     have H1 : (ladderbacklaw09_CountRises.j6 kj97 l0 x7_61 x8_97 x9_1 x10_1 false x12_9 false t125 t126 t127 t128 t129 t130 t131 t132 t133 t134 t135 t136 t137 t138 t139 t140 t141 t142 t143 t144 t145 t146 t147 t148 t149 t150 t151 t152 t153 t154 ((rd_T27 l0 x10_1).f0) ((rd_T27 l0 x10_1).f1)) = some r := by rw [if_neg (show ¬ (false = true) by decide)] at H; exact H
                     clear H
                     have H := H1
                     clear H1
                     have H' := Aside0.mk H
                     clear H
                     try go_wp2
                     repeat (go_quiet (fail); try go_wp2)
                     go_meet
                     case rel => exact ⟨_, (false), (by first | rfl | (simp; done) | (simp [*]; done)), H', ⟨by have := HK1.out; have := HJ9.out; have := HJ28.out; have := HJ49.out; have := HJ61.out; have := HJ97.out; first | omega | exact Nat.le_refl _⟩, ⟨by (with_reducible repeat (first | refine blk_drewN ?_ _ | refine blk_drew ?_ | refine blk_alloc ?_ _)); exact BK114.out⟩, ⟨by (with_reducible repeat (first | refine blk_drewN ?_ _ | refine blk_drew ?_ | refine blk_alloc ?_ _)); exact BK115.out⟩, ⟨by (with_reducible repeat (first | refine blk_drewN ?_ _ | refine blk_drew ?_ | refine blk_alloc ?_ _)); exact BK116.out⟩, ⟨by (with_reducible repeat (first | refine blk_drewN ?_ _ | refine blk_drew ?_ | refine blk_alloc ?_ _)); exact BK117.out⟩, ⟨by repeat (first | (with_reducible first | exact HB.out | apply below_alloc | apply pw_below_drewN | apply below_drew1 | refine below_set ?_ GE114.out | refine below_set ?_ GE115.out | refine below_set ?_ GE116.out | refine below_set ?_ GE117.out) | exact HB.out)⟩⟩
                   case rest =>
                    clear HC100
                    obtain ⟨kq, x89_99, rfl, HA, HJ99, BK114, BK115, BK116, BK117, HB⟩ := hcut
                    cases kq with
                    | zero => exact absurd HA.out (by simp [ladderbacklaw09_CountRises.j6])
                    | succ kj99 =>
                     have H := HA.out
                     clear HA
                     simp only [ladderbacklaw09_CountRises.j6] at H
                     have HC102 := Aside0.mk H
                     clear H
                     go_upto_if 89 with (fail)
                     repeat (go_quiet (fail); go_upto_if 89 with (fail))
                     go_cut [9] (fun v9 wc => ∃ (kq : Nat) (x9_101 : Int), v9 = .int .i64 x9_101 ∧ Aside0 (ladderbacklaw09_CountRises.j7 kq l0 x7_61 x8_97 x9_101 x10_1 x11_9 x12_9 t125 t126 t127 t128 t129 t130 t131 t132 t133 t134 t135 t136 t137 t138 t139 t140 t141 t142 t143 t144 t145 t146 t147 t148 t149 t150 t151 t152 t153 t154 ((rd_T27 l0 x10_1).f0) ((rd_T27 l0 x10_1).f1) = some r) ∧ Aside0 (kq ≤ kj99) ∧ Aside0 (wc.heap[gb114]? = some (.cells #[.int .i64 t125, .int .i64 t126, .int .i64 t127, .int .i64 t128, .int .i64 t129, .int .i64 t130, .int .i64 t131, .int .i64 t132, .int .i64 t133, .int .i64 t134] 26 (0, 0))) ∧ Aside0 (wc.heap[gb115]? = some (.cells #[.int .i64 t135, .int .i64 t136, .int .i64 t137, .int .i64 t138, .int .i64 t139, .int .i64 t140, .int .i64 t141, .int .i64 t142, .int .i64 t143, .int .i64 t144] 26 (0, 0))) ∧ Aside0 (wc.heap[gb116]? = some (.cells #[.int .i64 t145, .int .i64 t146, .int .i64 t147, .int .i64 t148, .int .i64 t149, .int .i64 t150, .int .i64 t151, .int .i64 t152, .int .i64 t153, .int .i64 t154] 26 (0, 0))) ∧ Aside0 (wc.heap[gb117]? = some (.cells #[.bool ((rd_T27 l0 x10_1).f0), .bool ((rd_T27 l0 x10_1).f1)] 27 (0, 0))) ∧ Aside0 (Below w.heap.size w wc))
                     case first =>
                      have H := HC102.out
                      clear HC102
                      by_cases c103 : x89_99 = true
                      ·
                       subst c103
                       have H1 : (ladderbacklaw09_CountRises.j7 kj99 l0 x7_61 x8_97 (wrap64 (x9_1 + 1)) x10_1 x11_9 x12_9 t125 t126 t127 t128 t129 t130 t131 t132 t133 t134 t135 t136 t137 t138 t139 t140 t141 t142 t143 t144 t145 t146 t147 t148 t149 t150 t151 t152 t153 t154 ((rd_T27 l0 x10_1).f0) ((rd_T27 l0 x10_1).f1)) = some r := by rw [if_pos rfl] at H; exact H
                       clear H
                       have H := H1
                       clear H1
                       have H' := Aside0.mk H
                       clear H
                       try go_wp2
                       repeat (go_quiet (fail); try go_wp2)
                       go_meet
                       case rel => exact ⟨_, (wrap64 (x9_1 + 1)), (by first | rfl | (simp; done) | (simp [*]; done)), H', ⟨by have := HK1.out; have := HJ9.out; have := HJ28.out; have := HJ49.out; have := HJ61.out; have := HJ97.out; have := HJ99.out; first | omega | exact Nat.le_refl _⟩, ⟨by (with_reducible repeat (first | refine blk_drewN ?_ _ | refine blk_drew ?_ | refine blk_alloc ?_ _)); exact BK114.out⟩, ⟨by (with_reducible repeat (first | refine blk_drewN ?_ _ | refine blk_drew ?_ | refine blk_alloc ?_ _)); exact BK115.out⟩, ⟨by (with_reducible repeat (first | refine blk_drewN ?_ _ | refine blk_drew ?_ | refine blk_alloc ?_ _)); exact BK116.out⟩, ⟨by (with_reducible repeat (first | refine blk_drewN ?_ _ | refine blk_drew ?_ | refine blk_alloc ?_ _)); exact BK117.out⟩, ⟨by repeat (first | (with_reducible first | exact HB.out | apply below_alloc | apply pw_below_drewN | apply below_drew1 | refine below_set ?_ GE114.out | refine below_set ?_ GE115.out | refine below_set ?_ GE116.out | refine below_set ?_ GE117.out) | exact HB.out)⟩⟩
                      ·
                       replace c103 := Bool.eq_false_iff.mpr c103
                       subst c103
                       have H1 : (ladderbacklaw09_CountRises.j7 kj99 l0 x7_61 x8_97 x9_1 x10_1 x11_9 x12_9 t125 t126 t127 t128 t129 t130 t131 t132 t133 t134 t135 t136 t137 t138 t139 t140 t141 t142 t143 t144 t145 t146 t147 t148 t149 t150 t151 t152 t153 t154 ((rd_T27 l0 x10_1).f0) ((rd_T27 l0 x10_1).f1)) = some r := by rw [if_neg (show ¬ (false = true) by decide)] at H; exact H
                       clear H
                       have H := H1
                       clear H1
                       have H' := Aside0.mk H
                       clear H
                       try go_wp2
                       repeat (go_quiet (fail); try go_wp2)
                       go_meet
                       case rel => exact ⟨_, (x9_1), (by first | rfl | (simp; done) | (simp [*]; done)), H', ⟨by have := HK1.out; have := HJ9.out; have := HJ28.out; have := HJ49.out; have := HJ61.out; have := HJ97.out; have := HJ99.out; first | omega | exact Nat.le_refl _⟩, ⟨by (with_reducible repeat (first | refine blk_drewN ?_ _ | refine blk_drew ?_ | refine blk_alloc ?_ _)); exact BK114.out⟩, ⟨by (with_reducible repeat (first | refine blk_drewN ?_ _ | refine blk_drew ?_ | refine blk_alloc ?_ _)); exact BK115.out⟩, ⟨by (with_reducible repeat (first | refine blk_drewN ?_ _ | refine blk_drew ?_ | refine blk_alloc ?_ _)); exact BK116.out⟩, ⟨by (with_reducible repeat (first | refine blk_drewN ?_ _ | refine blk_drew ?_ | refine blk_alloc ?_ _)); exact BK117.out⟩, ⟨by repeat (first | (with_reducible first | exact HB.out | apply below_alloc | apply pw_below_drewN | apply below_drew1 | refine below_set ?_ GE114.out | refine below_set ?_ GE115.out | refine below_set ?_ GE116.out | refine below_set ?_ GE117.out) | exact HB.out)⟩⟩
                     case rest =>
                      clear HC102
                      obtain ⟨kq, x9_101, rfl, HA, HJ101, BK114, BK115, BK116, BK117, HB⟩ := hcut
                      cases kq with
                      | zero => exact absurd HA.out (by simp [ladderbacklaw09_CountRises.j7])
                      | succ kj101 =>
                       have H := HA.out
                       clear HA
                       simp only [ladderbacklaw09_CountRises.j7] at H
                       have HC104 := Aside0.mk H
                       clear H
                       go_upto_region 28 with (fail)
                       repeat (go_quiet (fail); go_upto_region 28 with (fail))
                       go_cut [96] (fun v96 wc => ∃ (kq : Nat) (x96_103 : Bool), v96 = .bool x96_103 ∧ Aside0 (ladderbacklaw09_CountRises.j8 kq l0 x7_61 x8_97 x9_101 x10_1 x96_103 t125 t126 t127 t128 t129 t130 t131 t132 t133 t134 t135 t136 t137 t138 t139 t140 t141 t142 t143 t144 t145 t146 t147 t148 t149 t150 t151 t152 t153 t154 ((rd_T27 l0 x10_1).f0) ((rd_T27 l0 x10_1).f1) = some r) ∧ Aside0 (kq ≤ kj101) ∧ Aside0 (wc.heap[gb114]? = some (.cells #[.int .i64 t125, .int .i64 t126, .int .i64 t127, .int .i64 t128, .int .i64 t129, .int .i64 t130, .int .i64 t131, .int .i64 t132, .int .i64 t133, .int .i64 t134] 26 (0, 0))) ∧ Aside0 (wc.heap[gb115]? = some (.cells #[.int .i64 t135, .int .i64 t136, .int .i64 t137, .int .i64 t138, .int .i64 t139, .int .i64 t140, .int .i64 t141, .int .i64 t142, .int .i64 t143, .int .i64 t144] 26 (0, 0))) ∧ Aside0 (wc.heap[gb116]? = some (.cells #[.int .i64 t145, .int .i64 t146, .int .i64 t147, .int .i64 t148, .int .i64 t149, .int .i64 t150, .int .i64 t151, .int .i64 t152, .int .i64 t153, .int .i64 t154] 26 (0, 0))) ∧ Aside0 (wc.heap[gb117]? = some (.cells #[.bool ((rd_T27 l0 x10_1).f0), .bool ((rd_T27 l0 x10_1).f1)] 27 (0, 0))) ∧ Aside0 (Below w.heap.size w wc))
                       case first =>
                        have H := HC104.out
                        clear HC104
                        by_cases c105 : x12_9 = true
                        ·
                         subst c105
                         have H1 : (ladderbacklaw09_CountRises.j8 kj101 l0 x7_61 x8_97 x9_101 x10_1 (!x11_9) t125 t126 t127 t128 t129 t130 t131 t132 t133 t134 t135 t136 t137 t138 t139 t140 t141 t142 t143 t144 t145 t146 t147 t148 t149 t150 t151 t152 t153 t154 ((rd_T27 l0 x10_1).f0) ((rd_T27 l0 x10_1).f1)) = some r := by rw [if_pos rfl] at H; exact H
                         clear H
                         have H := H1
                         clear H1
                         have H' := Aside0.mk H
                         clear H
                         try go_wp2
                         repeat (go_quiet (fail); try go_wp2)
                         go_meet
                         case rel => exact ⟨_, (!x11_9), (by first | rfl | (simp; done) | (simp [*]; done)), H', ⟨by have := HK1.out; have := HJ9.out; have := HJ28.out; have := HJ49.out; have := HJ61.out; have := HJ97.out; have := HJ99.out; have := HJ101.out; first | omega | exact Nat.le_refl _⟩, ⟨by (with_reducible repeat (first | refine blk_drewN ?_ _ | refine blk_drew ?_ | refine blk_alloc ?_ _)); exact BK114.out⟩, ⟨by (with_reducible repeat (first | refine blk_drewN ?_ _ | refine blk_drew ?_ | refine blk_alloc ?_ _)); exact BK115.out⟩, ⟨by (with_reducible repeat (first | refine blk_drewN ?_ _ | refine blk_drew ?_ | refine blk_alloc ?_ _)); exact BK116.out⟩, ⟨by (with_reducible repeat (first | refine blk_drewN ?_ _ | refine blk_drew ?_ | refine blk_alloc ?_ _)); exact BK117.out⟩, ⟨by repeat (first | (with_reducible first | exact HB.out | apply below_alloc | apply pw_below_drewN | apply below_drew1 | refine below_set ?_ GE114.out | refine below_set ?_ GE115.out | refine below_set ?_ GE116.out | refine below_set ?_ GE117.out) | exact HB.out)⟩⟩
                        ·
                         replace c105 := Bool.eq_false_iff.mpr c105
                         subst c105
                         have H1 : (ladderbacklaw09_CountRises.j8 kj101 l0 x7_61 x8_97 x9_101 x10_1 false t125 t126 t127 t128 t129 t130 t131 t132 t133 t134 t135 t136 t137 t138 t139 t140 t141 t142 t143 t144 t145 t146 t147 t148 t149 t150 t151 t152 t153 t154 ((rd_T27 l0 x10_1).f0) ((rd_T27 l0 x10_1).f1)) = some r := by rw [if_neg (show ¬ (false = true) by decide)] at H; exact H
                         clear H
                         have H := H1
                         clear H1
                         have H' := Aside0.mk H
                         clear H
                         try go_wp2
                         repeat (go_quiet (fail); try go_wp2)
                         go_meet
                         case rel => exact ⟨_, (false), (by first | rfl | (simp; done) | (simp [*]; done)), H', ⟨by have := HK1.out; have := HJ9.out; have := HJ28.out; have := HJ49.out; have := HJ61.out; have := HJ97.out; have := HJ99.out; have := HJ101.out; first | omega | exact Nat.le_refl _⟩, ⟨by (with_reducible repeat (first | refine blk_drewN ?_ _ | refine blk_drew ?_ | refine blk_alloc ?_ _)); exact BK114.out⟩, ⟨by (with_reducible repeat (first | refine blk_drewN ?_ _ | refine blk_drew ?_ | refine blk_alloc ?_ _)); exact BK115.out⟩, ⟨by (with_reducible repeat (first | refine blk_drewN ?_ _ | refine blk_drew ?_ | refine blk_alloc ?_ _)); exact BK116.out⟩, ⟨by (with_reducible repeat (first | refine blk_drewN ?_ _ | refine blk_drew ?_ | refine blk_alloc ?_ _)); exact BK117.out⟩, ⟨by repeat (first | (with_reducible first | exact HB.out | apply below_alloc | apply pw_below_drewN | apply below_drew1 | refine below_set ?_ GE114.out | refine below_set ?_ GE115.out | refine below_set ?_ GE116.out | refine below_set ?_ GE117.out) | exact HB.out)⟩⟩
                       case rest =>
                        clear HC104
                        obtain ⟨kq, x96_103, rfl, HA, HJ103, BK114, BK115, BK116, BK117, HB⟩ := hcut
                        cases kq with
                        | zero => exact absurd HA.out (by simp [ladderbacklaw09_CountRises.j8])
                        | succ kj103 =>
                         have H := HA.out
                         clear HA
                         simp only [ladderbacklaw09_CountRises.j8] at H
                         by_cases c106 : x96_103 = true
                         ·
                          subst c106
                          have H1 : (if t129 = x7_61 then (if t139 = (wrap64 (-x8_97)) then (if t152 = (wrap64 (x9_101 - 1)) then (ladderbacklaw09_CountRises.l0 kj103 l0 x7_61 x8_97 (wrap64 (x9_101 - 1)) (wrap64 (x10_1 + 1)) t125 t126 t127 t128 t129 t130 t131 t132 t133 t134 t135 t136 t137 t138 t139 t140 t141 t142 t143 t144 t145 t146 t147 t148 t149 t150 t151 t152 t153 t154 ((rd_T27 l0 x10_1).f0) ((rd_T27 l0 x10_1).f1)) else (some false)) else (some false)) else (some false)) = some r := by rw [if_pos rfl] at H; exact H
                          clear H
                          have H := H1
                          clear H1
                          by_cases c107 : t129 = x7_61
                          ·
                           rw [if_pos c107] at H
                           have c107b0 : (t129 == x7_61) = true := beq_iff_eq.mpr c107
                           have c107b1 : (t129 != x7_61) = false := bne_eq_false_iff_eq.mpr c107
                           clear c107
                           by_cases c108 : t139 = (wrap64 (-x8_97))
                           ·
                            rw [if_pos c108] at H
                            have c108b0 : (t139 == (wrap64 (-x8_97))) = true := beq_iff_eq.mpr c108
                            have c108b1 : (t139 != (wrap64 (-x8_97))) = false := bne_eq_false_iff_eq.mpr c108
                            clear c108
                            by_cases c109 : t152 = (wrap64 (x9_101 - 1))
                            ·
                             rw [if_pos c109] at H
                             have c109b0 : (t152 == (wrap64 (x9_101 - 1))) = true := beq_iff_eq.mpr c109
                             have c109b1 : (t152 != (wrap64 (x9_101 - 1))) = false := bne_eq_false_iff_eq.mpr c109
                             clear c109
                             have H' := Aside0.mk H
                             clear H
                             have hnb110 := NB114_115.out
                             have hnc110 := NB115_114.out
                             have hnb111 := NB114_116.out
                             have hnc111 := NB116_114.out
                             have hnb112 := NB114_117.out
                             have hnc112 := NB117_114.out
                             have hcz113_0 : wc.cell? ⟨gb114, 0, none⟩ = some (.int .i64 t125) := (blk_cell BK114.out 0).trans rfl
                             have hcz113_1 : wc.cell? ⟨gb114, 1, none⟩ = some (.int .i64 t126) := (blk_cell BK114.out 1).trans rfl
                             have hcz113_2 : wc.cell? ⟨gb114, 2, none⟩ = some (.int .i64 t127) := (blk_cell BK114.out 2).trans rfl
                             have hcz113_3 : wc.cell? ⟨gb114, 3, none⟩ = some (.int .i64 t128) := (blk_cell BK114.out 3).trans rfl
                             have hcz113_4 : wc.cell? ⟨gb114, 4, none⟩ = some (.int .i64 t129) := (blk_cell BK114.out 4).trans rfl
                             have hcz113_5 : wc.cell? ⟨gb114, 5, none⟩ = some (.int .i64 t130) := (blk_cell BK114.out 5).trans rfl
                             have hcz113_6 : wc.cell? ⟨gb114, 6, none⟩ = some (.int .i64 t131) := (blk_cell BK114.out 6).trans rfl
                             have hcz113_7 : wc.cell? ⟨gb114, 7, none⟩ = some (.int .i64 t132) := (blk_cell BK114.out 7).trans rfl
                             have hcz113_8 : wc.cell? ⟨gb114, 8, none⟩ = some (.int .i64 t133) := (blk_cell BK114.out 8).trans rfl
                             have hcz113_9 : wc.cell? ⟨gb114, 9, none⟩ = some (.int .i64 t134) := (blk_cell BK114.out 9).trans rfl
                             have hfz113_0 := blk_frozen BK114.out 0
                             have hfz113_1 := blk_frozen BK114.out 1
                             have hfz113_2 := blk_frozen BK114.out 2
                             have hfz113_3 := blk_frozen BK114.out 3
                             have hfz113_4 := blk_frozen BK114.out 4
                             have hfz113_5 := blk_frozen BK114.out 5
                             have hfz113_6 := blk_frozen BK114.out 6
                             have hfz113_7 := blk_frozen BK114.out 7
                             have hfz113_8 := blk_frozen BK114.out 8
                             have hfz113_9 := blk_frozen BK114.out 9
                             have hnb114 := NB115_116.out
                             have hnc114 := NB116_115.out
                             have hnb115 := NB115_117.out
                             have hnc115 := NB117_115.out
                             have hcz116_0 : wc.cell? ⟨gb115, 0, none⟩ = some (.int .i64 t135) := (blk_cell BK115.out 0).trans rfl
                             have hcz116_1 : wc.cell? ⟨gb115, 1, none⟩ = some (.int .i64 t136) := (blk_cell BK115.out 1).trans rfl
                             have hcz116_2 : wc.cell? ⟨gb115, 2, none⟩ = some (.int .i64 t137) := (blk_cell BK115.out 2).trans rfl
                             have hcz116_3 : wc.cell? ⟨gb115, 3, none⟩ = some (.int .i64 t138) := (blk_cell BK115.out 3).trans rfl
                             have hcz116_4 : wc.cell? ⟨gb115, 4, none⟩ = some (.int .i64 t139) := (blk_cell BK115.out 4).trans rfl
                             have hcz116_5 : wc.cell? ⟨gb115, 5, none⟩ = some (.int .i64 t140) := (blk_cell BK115.out 5).trans rfl
                             have hcz116_6 : wc.cell? ⟨gb115, 6, none⟩ = some (.int .i64 t141) := (blk_cell BK115.out 6).trans rfl
                             have hcz116_7 : wc.cell? ⟨gb115, 7, none⟩ = some (.int .i64 t142) := (blk_cell BK115.out 7).trans rfl
                             have hcz116_8 : wc.cell? ⟨gb115, 8, none⟩ = some (.int .i64 t143) := (blk_cell BK115.out 8).trans rfl
                             have hcz116_9 : wc.cell? ⟨gb115, 9, none⟩ = some (.int .i64 t144) := (blk_cell BK115.out 9).trans rfl
                             have hfz116_0 := blk_frozen BK115.out 0
                             have hfz116_1 := blk_frozen BK115.out 1
                             have hfz116_2 := blk_frozen BK115.out 2
                             have hfz116_3 := blk_frozen BK115.out 3
                             have hfz116_4 := blk_frozen BK115.out 4
                             have hfz116_5 := blk_frozen BK115.out 5
                             have hfz116_6 := blk_frozen BK115.out 6
                             have hfz116_7 := blk_frozen BK115.out 7
                             have hfz116_8 := blk_frozen BK115.out 8
                             have hfz116_9 := blk_frozen BK115.out 9
                             have hnb117 := NB116_117.out
                             have hnc117 := NB117_116.out
                             have hcz118_0 : wc.cell? ⟨gb116, 0, none⟩ = some (.int .i64 t145) := (blk_cell BK116.out 0).trans rfl
                             have hcz118_1 : wc.cell? ⟨gb116, 1, none⟩ = some (.int .i64 t146) := (blk_cell BK116.out 1).trans rfl
                             have hcz118_2 : wc.cell? ⟨gb116, 2, none⟩ = some (.int .i64 t147) := (blk_cell BK116.out 2).trans rfl
                             have hcz118_3 : wc.cell? ⟨gb116, 3, none⟩ = some (.int .i64 t148) := (blk_cell BK116.out 3).trans rfl
                             have hcz118_4 : wc.cell? ⟨gb116, 4, none⟩ = some (.int .i64 t149) := (blk_cell BK116.out 4).trans rfl
                             have hcz118_5 : wc.cell? ⟨gb116, 5, none⟩ = some (.int .i64 t150) := (blk_cell BK116.out 5).trans rfl
                             have hcz118_6 : wc.cell? ⟨gb116, 6, none⟩ = some (.int .i64 t151) := (blk_cell BK116.out 6).trans rfl
                             have hcz118_7 : wc.cell? ⟨gb116, 7, none⟩ = some (.int .i64 t152) := (blk_cell BK116.out 7).trans rfl
                             have hcz118_8 : wc.cell? ⟨gb116, 8, none⟩ = some (.int .i64 t153) := (blk_cell BK116.out 8).trans rfl
                             have hcz118_9 : wc.cell? ⟨gb116, 9, none⟩ = some (.int .i64 t154) := (blk_cell BK116.out 9).trans rfl
                             have hfz118_0 := blk_frozen BK116.out 0
                             have hfz118_1 := blk_frozen BK116.out 1
                             have hfz118_2 := blk_frozen BK116.out 2
                             have hfz118_3 := blk_frozen BK116.out 3
                             have hfz118_4 := blk_frozen BK116.out 4
                             have hfz118_5 := blk_frozen BK116.out 5
                             have hfz118_6 := blk_frozen BK116.out 6
                             have hfz118_7 := blk_frozen BK116.out 7
                             have hfz118_8 := blk_frozen BK116.out 8
                             have hfz118_9 := blk_frozen BK116.out 9
                             try go_wp2
                             repeat (go_quiet (fail); try go_wp2)
                             go_roundg kj103
                             case measure => have := HK1.out; have := HJ9.out; have := HJ28.out; have := HJ49.out; have := HJ61.out; have := HJ97.out; have := HJ99.out; have := HJ101.out; have := HJ103.out; omega
                             case rel => exact ⟨(x7_61), (x8_97), (wrap64 (x9_101 - 1)), (wrap64 (x10_1 + 1)), (t125), (t126), (t127), (t128), (t129), (t130), (t131), (t132), (t133), (t134), (t135), (t136), (t137), (t138), (t139), (t140), (t141), (t142), (t143), (t144), (t145), (t146), (t147), (t148), (t149), (t150), (t151), (t152), (t153), (t154), (((rd_T27 l0 x10_1).f0)), (((rd_T27 l0 x10_1).f1)), (by first | rfl | (simp; done) | (simp [*]; done)), (by first | rfl | (simp; done) | (simp [*]; done)), (by first | rfl | (simp; done) | (simp [*]; done)), (by first | rfl | (simp; done) | (simp [*]; done)), H', ⟨by have := HK1.out; have := HJ9.out; have := HJ28.out; have := HJ49.out; have := HJ61.out; have := HJ97.out; have := HJ99.out; have := HJ101.out; have := HJ103.out; omega⟩, ⟨by (with_reducible repeat (first | refine blk_drewN ?_ _ | refine blk_drew ?_ | refine blk_alloc ?_ _)); exact BK114.out⟩, ⟨by (with_reducible repeat (first | refine blk_drewN ?_ _ | refine blk_drew ?_ | refine blk_alloc ?_ _)); exact BK115.out⟩, ⟨by (with_reducible repeat (first | refine blk_drewN ?_ _ | refine blk_drew ?_ | refine blk_alloc ?_ _)); exact BK116.out⟩, ⟨by (with_reducible repeat (first | refine blk_drewN ?_ _ | refine blk_drew ?_ | refine blk_alloc ?_ _)); exact BK117.out⟩, ⟨by repeat (first | (with_reducible first | exact HB.out | apply below_alloc | apply pw_below_drewN | apply below_drew1 | refine below_set ?_ GE114.out | refine below_set ?_ GE115.out | refine below_set ?_ GE116.out | refine below_set ?_ GE117.out) | exact HB.out)⟩⟩
                            ·
                             rw [if_neg c109] at H
                             have c109b0 : (t152 == (wrap64 (x9_101 - 1))) = false := beq_eq_false_iff_ne.mpr c109
                             have c109b1 : (t152 != (wrap64 (x9_101 - 1))) = true := bne_iff_ne.mpr c109
                             exact absurd (Option.some.inj H) (by rw [HRT.out]; decide)
                           ·
                            rw [if_neg c108] at H
                            have c108b0 : (t139 == (wrap64 (-x8_97))) = false := beq_eq_false_iff_ne.mpr c108
                            have c108b1 : (t139 != (wrap64 (-x8_97))) = true := bne_iff_ne.mpr c108
                            exact absurd (Option.some.inj H) (by rw [HRT.out]; decide)
                          ·
                           rw [if_neg c107] at H
                           have c107b0 : (t129 == x7_61) = false := beq_eq_false_iff_ne.mpr c107
                           have c107b1 : (t129 != x7_61) = true := bne_iff_ne.mpr c107
                           exact absurd (Option.some.inj H) (by rw [HRT.out]; decide)
                         ·
                          replace c106 := Bool.eq_false_iff.mpr c106
                          subst c106
                          have H1 : (if t129 = x7_61 then (if t139 = (wrap64 (-x8_97)) then (if t152 = x9_101 then (ladderbacklaw09_CountRises.l0 kj103 l0 x7_61 x8_97 x9_101 (wrap64 (x10_1 + 1)) t125 t126 t127 t128 t129 t130 t131 t132 t133 t134 t135 t136 t137 t138 t139 t140 t141 t142 t143 t144 t145 t146 t147 t148 t149 t150 t151 t152 t153 t154 ((rd_T27 l0 x10_1).f0) ((rd_T27 l0 x10_1).f1)) else (some false)) else (some false)) else (some false)) = some r := by rw [if_neg (show ¬ (false = true) by decide)] at H; exact H
                          clear H
                          have H := H1
                          clear H1
                          by_cases c119 : t129 = x7_61
                          ·
                           rw [if_pos c119] at H
                           have c119b0 : (t129 == x7_61) = true := beq_iff_eq.mpr c119
                           have c119b1 : (t129 != x7_61) = false := bne_eq_false_iff_eq.mpr c119
                           clear c119
                           by_cases c120 : t139 = (wrap64 (-x8_97))
                           ·
                            rw [if_pos c120] at H
                            have c120b0 : (t139 == (wrap64 (-x8_97))) = true := beq_iff_eq.mpr c120
                            have c120b1 : (t139 != (wrap64 (-x8_97))) = false := bne_eq_false_iff_eq.mpr c120
                            clear c120
                            by_cases c121 : t152 = x9_101
                            ·
                             rw [if_pos c121] at H
                             have c121b0 : (t152 == x9_101) = true := beq_iff_eq.mpr c121
                             have c121b1 : (t152 != x9_101) = false := bne_eq_false_iff_eq.mpr c121
                             clear c121
                             have H' := Aside0.mk H
                             clear H
                             have hnb122 := NB114_115.out
                             have hnc122 := NB115_114.out
                             have hnb123 := NB114_116.out
                             have hnc123 := NB116_114.out
                             have hnb124 := NB114_117.out
                             have hnc124 := NB117_114.out
                             have hcz125_0 : wc.cell? ⟨gb114, 0, none⟩ = some (.int .i64 t125) := (blk_cell BK114.out 0).trans rfl
                             have hcz125_1 : wc.cell? ⟨gb114, 1, none⟩ = some (.int .i64 t126) := (blk_cell BK114.out 1).trans rfl
                             have hcz125_2 : wc.cell? ⟨gb114, 2, none⟩ = some (.int .i64 t127) := (blk_cell BK114.out 2).trans rfl
                             have hcz125_3 : wc.cell? ⟨gb114, 3, none⟩ = some (.int .i64 t128) := (blk_cell BK114.out 3).trans rfl
                             have hcz125_4 : wc.cell? ⟨gb114, 4, none⟩ = some (.int .i64 t129) := (blk_cell BK114.out 4).trans rfl
                             have hcz125_5 : wc.cell? ⟨gb114, 5, none⟩ = some (.int .i64 t130) := (blk_cell BK114.out 5).trans rfl
                             have hcz125_6 : wc.cell? ⟨gb114, 6, none⟩ = some (.int .i64 t131) := (blk_cell BK114.out 6).trans rfl
                             have hcz125_7 : wc.cell? ⟨gb114, 7, none⟩ = some (.int .i64 t132) := (blk_cell BK114.out 7).trans rfl
                             have hcz125_8 : wc.cell? ⟨gb114, 8, none⟩ = some (.int .i64 t133) := (blk_cell BK114.out 8).trans rfl
                             have hcz125_9 : wc.cell? ⟨gb114, 9, none⟩ = some (.int .i64 t134) := (blk_cell BK114.out 9).trans rfl
                             have hfz125_0 := blk_frozen BK114.out 0
                             have hfz125_1 := blk_frozen BK114.out 1
                             have hfz125_2 := blk_frozen BK114.out 2
                             have hfz125_3 := blk_frozen BK114.out 3
                             have hfz125_4 := blk_frozen BK114.out 4
                             have hfz125_5 := blk_frozen BK114.out 5
                             have hfz125_6 := blk_frozen BK114.out 6
                             have hfz125_7 := blk_frozen BK114.out 7
                             have hfz125_8 := blk_frozen BK114.out 8
                             have hfz125_9 := blk_frozen BK114.out 9
                             have hnb126 := NB115_116.out
                             have hnc126 := NB116_115.out
                             have hnb127 := NB115_117.out
                             have hnc127 := NB117_115.out
                             have hcz128_0 : wc.cell? ⟨gb115, 0, none⟩ = some (.int .i64 t135) := (blk_cell BK115.out 0).trans rfl
                             have hcz128_1 : wc.cell? ⟨gb115, 1, none⟩ = some (.int .i64 t136) := (blk_cell BK115.out 1).trans rfl
                             have hcz128_2 : wc.cell? ⟨gb115, 2, none⟩ = some (.int .i64 t137) := (blk_cell BK115.out 2).trans rfl
                             have hcz128_3 : wc.cell? ⟨gb115, 3, none⟩ = some (.int .i64 t138) := (blk_cell BK115.out 3).trans rfl
                             have hcz128_4 : wc.cell? ⟨gb115, 4, none⟩ = some (.int .i64 t139) := (blk_cell BK115.out 4).trans rfl
                             have hcz128_5 : wc.cell? ⟨gb115, 5, none⟩ = some (.int .i64 t140) := (blk_cell BK115.out 5).trans rfl
                             have hcz128_6 : wc.cell? ⟨gb115, 6, none⟩ = some (.int .i64 t141) := (blk_cell BK115.out 6).trans rfl
                             have hcz128_7 : wc.cell? ⟨gb115, 7, none⟩ = some (.int .i64 t142) := (blk_cell BK115.out 7).trans rfl
                             have hcz128_8 : wc.cell? ⟨gb115, 8, none⟩ = some (.int .i64 t143) := (blk_cell BK115.out 8).trans rfl
                             have hcz128_9 : wc.cell? ⟨gb115, 9, none⟩ = some (.int .i64 t144) := (blk_cell BK115.out 9).trans rfl
                             have hfz128_0 := blk_frozen BK115.out 0
                             have hfz128_1 := blk_frozen BK115.out 1
                             have hfz128_2 := blk_frozen BK115.out 2
                             have hfz128_3 := blk_frozen BK115.out 3
                             have hfz128_4 := blk_frozen BK115.out 4
                             have hfz128_5 := blk_frozen BK115.out 5
                             have hfz128_6 := blk_frozen BK115.out 6
                             have hfz128_7 := blk_frozen BK115.out 7
                             have hfz128_8 := blk_frozen BK115.out 8
                             have hfz128_9 := blk_frozen BK115.out 9
                             have hnb129 := NB116_117.out
                             have hnc129 := NB117_116.out
                             have hcz130_0 : wc.cell? ⟨gb116, 0, none⟩ = some (.int .i64 t145) := (blk_cell BK116.out 0).trans rfl
                             have hcz130_1 : wc.cell? ⟨gb116, 1, none⟩ = some (.int .i64 t146) := (blk_cell BK116.out 1).trans rfl
                             have hcz130_2 : wc.cell? ⟨gb116, 2, none⟩ = some (.int .i64 t147) := (blk_cell BK116.out 2).trans rfl
                             have hcz130_3 : wc.cell? ⟨gb116, 3, none⟩ = some (.int .i64 t148) := (blk_cell BK116.out 3).trans rfl
                             have hcz130_4 : wc.cell? ⟨gb116, 4, none⟩ = some (.int .i64 t149) := (blk_cell BK116.out 4).trans rfl
                             have hcz130_5 : wc.cell? ⟨gb116, 5, none⟩ = some (.int .i64 t150) := (blk_cell BK116.out 5).trans rfl
                             have hcz130_6 : wc.cell? ⟨gb116, 6, none⟩ = some (.int .i64 t151) := (blk_cell BK116.out 6).trans rfl
                             have hcz130_7 : wc.cell? ⟨gb116, 7, none⟩ = some (.int .i64 t152) := (blk_cell BK116.out 7).trans rfl
                             have hcz130_8 : wc.cell? ⟨gb116, 8, none⟩ = some (.int .i64 t153) := (blk_cell BK116.out 8).trans rfl
                             have hcz130_9 : wc.cell? ⟨gb116, 9, none⟩ = some (.int .i64 t154) := (blk_cell BK116.out 9).trans rfl
                             have hfz130_0 := blk_frozen BK116.out 0
                             have hfz130_1 := blk_frozen BK116.out 1
                             have hfz130_2 := blk_frozen BK116.out 2
                             have hfz130_3 := blk_frozen BK116.out 3
                             have hfz130_4 := blk_frozen BK116.out 4
                             have hfz130_5 := blk_frozen BK116.out 5
                             have hfz130_6 := blk_frozen BK116.out 6
                             have hfz130_7 := blk_frozen BK116.out 7
                             have hfz130_8 := blk_frozen BK116.out 8
                             have hfz130_9 := blk_frozen BK116.out 9
                             try go_wp2
                             repeat (go_quiet (fail); try go_wp2)
                             go_roundg kj103
                             case measure => have := HK1.out; have := HJ9.out; have := HJ28.out; have := HJ49.out; have := HJ61.out; have := HJ97.out; have := HJ99.out; have := HJ101.out; have := HJ103.out; omega
                             case rel => exact ⟨(x7_61), (x8_97), (x9_101), (wrap64 (x10_1 + 1)), (t125), (t126), (t127), (t128), (t129), (t130), (t131), (t132), (t133), (t134), (t135), (t136), (t137), (t138), (t139), (t140), (t141), (t142), (t143), (t144), (t145), (t146), (t147), (t148), (t149), (t150), (t151), (t152), (t153), (t154), (((rd_T27 l0 x10_1).f0)), (((rd_T27 l0 x10_1).f1)), (by first | rfl | (simp; done) | (simp [*]; done)), (by first | rfl | (simp; done) | (simp [*]; done)), (by first | rfl | (simp; done) | (simp [*]; done)), (by first | rfl | (simp; done) | (simp [*]; done)), H', ⟨by have := HK1.out; have := HJ9.out; have := HJ28.out; have := HJ49.out; have := HJ61.out; have := HJ97.out; have := HJ99.out; have := HJ101.out; have := HJ103.out; omega⟩, ⟨by (with_reducible repeat (first | refine blk_drewN ?_ _ | refine blk_drew ?_ | refine blk_alloc ?_ _)); exact BK114.out⟩, ⟨by (with_reducible repeat (first | refine blk_drewN ?_ _ | refine blk_drew ?_ | refine blk_alloc ?_ _)); exact BK115.out⟩, ⟨by (with_reducible repeat (first | refine blk_drewN ?_ _ | refine blk_drew ?_ | refine blk_alloc ?_ _)); exact BK116.out⟩, ⟨by (with_reducible repeat (first | refine blk_drewN ?_ _ | refine blk_drew ?_ | refine blk_alloc ?_ _)); exact BK117.out⟩, ⟨by repeat (first | (with_reducible first | exact HB.out | apply below_alloc | apply pw_below_drewN | apply below_drew1 | refine below_set ?_ GE114.out | refine below_set ?_ GE115.out | refine below_set ?_ GE116.out | refine below_set ?_ GE117.out) | exact HB.out)⟩⟩
                            ·
                             rw [if_neg c121] at H
                             have c121b0 : (t152 == x9_101) = false := beq_eq_false_iff_ne.mpr c121
                             have c121b1 : (t152 != x9_101) = true := bne_iff_ne.mpr c121
                             exact absurd (Option.some.inj H) (by rw [HRT.out]; decide)
                           ·
                            rw [if_neg c120] at H
                            have c120b0 : (t139 == (wrap64 (-x8_97))) = false := beq_eq_false_iff_ne.mpr c120
                            have c120b1 : (t139 != (wrap64 (-x8_97))) = true := bne_iff_ne.mpr c120
                            exact absurd (Option.some.inj H) (by rw [HRT.out]; decide)
                          ·
                           rw [if_neg c119] at H
                           have c119b0 : (t129 == x7_61) = false := beq_eq_false_iff_ne.mpr c119
                           have c119b1 : (t129 != x7_61) = true := bne_iff_ne.mpr c119
                           exact absurd (Option.some.inj H) (by rw [HRT.out]; decide)
            ·
             rw [if_neg c49] at H
             exact absurd H (by simp)
           ·
            rw [if_neg c48] at H
            exact absurd H (by simp)
        ·
         rw [if_neg c28] at H
         exact absurd H (by simp)
       ·
        rw [if_neg c27] at H
        exact absurd H (by simp)
    ·
     rw [if_neg c9] at H
     have c9b0 : decide (x10_1 < (l0.length : Int)) = false := decide_eq_false c9
     clear c9
     replace H := Option.bind_eq_some_iff.mp H
     obtain ⟨t118, A1310, H⟩ := H
     replace H : (some t118) = some r := H
     have A131 := Aside0.mk A1310
     clear A1310
     obtain rfl := Option.some.inj H
     try go_wp2_with (first | ((with_reducible refine gate_callee (f := 9) rfl ?_); refine goesL_ (some 119) rfl rfl Try.func9 (by kernel_rfl) rfl #[] rfl (by (try simp only [List.map_toArray, List.map_cons, List.map_nil]); first | done | rfl | (simp only [List.length_drop, List.length_take]; rfl)) ?_; (with_reducible refine (ladderbacklaw09_awake.calls  t118 _ A131.out).mono ?_); rintro e w132 ⟨rfl, hb⟩; refine ⟨_, rfl, ?_⟩; have n0_ := Aside0.mk (blk_below (g := gb114) (o := .cells #[.int .i64 x115000_1, .int .i64 x115001_1, .int .i64 x115002_1, .int .i64 x115003_1, .int .i64 x115004_1, .int .i64 x115005_1, .int .i64 x115006_1, .int .i64 x115007_1, .int .i64 x115008_1, .int .i64 x115009_1] 26 (0, 0)) (by (with_reducible repeat (first | refine blk_drewN ?_ _ | refine blk_drew ?_ | refine blk_alloc ?_ _)); exact BK114.out) hb); have n1_ := Aside0.mk (blk_below (g := gb115) (o := .cells #[.int .i64 x116000_1, .int .i64 x116001_1, .int .i64 x116002_1, .int .i64 x116003_1, .int .i64 x116004_1, .int .i64 x116005_1, .int .i64 x116006_1, .int .i64 x116007_1, .int .i64 x116008_1, .int .i64 x116009_1] 26 (0, 0)) (by (with_reducible repeat (first | refine blk_drewN ?_ _ | refine blk_drew ?_ | refine blk_alloc ?_ _)); exact BK115.out) hb); have n2_ := Aside0.mk (blk_below (g := gb116) (o := .cells #[.int .i64 x117000_1, .int .i64 x117001_1, .int .i64 x117002_1, .int .i64 x117003_1, .int .i64 x117004_1, .int .i64 x117005_1, .int .i64 x117006_1, .int .i64 x117007_1, .int .i64 x117008_1, .int .i64 x117009_1] 26 (0, 0)) (by (with_reducible repeat (first | refine blk_drewN ?_ _ | refine blk_drew ?_ | refine blk_alloc ?_ _)); exact BK116.out) hb); have n3_ := Aside0.mk (blk_below (g := gb117) (o := .cells #[.bool x118000_1, .bool x118001_1] 27 (0, 0)) (by (with_reducible repeat (first | refine blk_drewN ?_ _ | refine blk_drew ?_ | refine blk_alloc ?_ _)); exact BK117.out) hb); have n4_ := Aside0.mk (below_step (by repeat (first | (with_reducible first | exact HB.out | apply below_alloc | apply pw_below_drewN | apply below_drew1 | refine below_set ?_ GE114.out | refine below_set ?_ GE115.out | refine below_set ?_ GE116.out | refine below_set ?_ GE117.out) | exact HB.out)) hb); clear BK114; clear BK115; clear BK116; clear BK117; clear HB; have BK114 := n0_; have BK115 := n1_; have BK116 := n2_; have BK117 := n3_; have HB := n4_; clear n0_ n1_ n2_ n3_ n4_; (try clear hb); (try clear hb2); (try clear hk); (try clear hi)))
     repeat (go_quiet (fail); try go_wp2_with (first | ((with_reducible refine gate_callee (f := 9) rfl ?_); refine goesL_ (some 119) rfl rfl Try.func9 (by kernel_rfl) rfl #[] rfl (by (try simp only [List.map_toArray, List.map_cons, List.map_nil]); first | done | rfl | (simp only [List.length_drop, List.length_take]; rfl)) ?_; (with_reducible refine (ladderbacklaw09_awake.calls  t118 _ A131.out).mono ?_); rintro e w132 ⟨rfl, hb⟩; refine ⟨_, rfl, ?_⟩; have n0_ := Aside0.mk (blk_below (g := gb114) (o := .cells #[.int .i64 x115000_1, .int .i64 x115001_1, .int .i64 x115002_1, .int .i64 x115003_1, .int .i64 x115004_1, .int .i64 x115005_1, .int .i64 x115006_1, .int .i64 x115007_1, .int .i64 x115008_1, .int .i64 x115009_1] 26 (0, 0)) (by (with_reducible repeat (first | refine blk_drewN ?_ _ | refine blk_drew ?_ | refine blk_alloc ?_ _)); exact BK114.out) hb); have n1_ := Aside0.mk (blk_below (g := gb115) (o := .cells #[.int .i64 x116000_1, .int .i64 x116001_1, .int .i64 x116002_1, .int .i64 x116003_1, .int .i64 x116004_1, .int .i64 x116005_1, .int .i64 x116006_1, .int .i64 x116007_1, .int .i64 x116008_1, .int .i64 x116009_1] 26 (0, 0)) (by (with_reducible repeat (first | refine blk_drewN ?_ _ | refine blk_drew ?_ | refine blk_alloc ?_ _)); exact BK115.out) hb); have n2_ := Aside0.mk (blk_below (g := gb116) (o := .cells #[.int .i64 x117000_1, .int .i64 x117001_1, .int .i64 x117002_1, .int .i64 x117003_1, .int .i64 x117004_1, .int .i64 x117005_1, .int .i64 x117006_1, .int .i64 x117007_1, .int .i64 x117008_1, .int .i64 x117009_1] 26 (0, 0)) (by (with_reducible repeat (first | refine blk_drewN ?_ _ | refine blk_drew ?_ | refine blk_alloc ?_ _)); exact BK116.out) hb); have n3_ := Aside0.mk (blk_below (g := gb117) (o := .cells #[.bool x118000_1, .bool x118001_1] 27 (0, 0)) (by (with_reducible repeat (first | refine blk_drewN ?_ _ | refine blk_drew ?_ | refine blk_alloc ?_ _)); exact BK117.out) hb); have n4_ := Aside0.mk (below_step (by repeat (first | (with_reducible first | exact HB.out | apply below_alloc | apply pw_below_drewN | apply below_drew1 | refine below_set ?_ GE114.out | refine below_set ?_ GE115.out | refine below_set ?_ GE116.out | refine below_set ?_ GE117.out) | exact HB.out)) hb); clear BK114; clear BK115; clear BK116; clear BK117; clear HB; have BK114 := n0_; have BK115 := n1_; have BK116 := n2_; have BK117 := n3_; have HB := n4_; clear n0_ n1_ n2_ n3_ n4_; (try clear hb); (try clear hb2); (try clear hk); (try clear hi))))
     go_ret
     exact ⟨by first | rfl | (simp [errW_none, errW_some] <;> rfl) | (simp [*, errW_none, errW_some] <;> rfl), by repeat (first | (with_reducible first | exact HB.out | apply below_alloc | apply pw_below_drewN | apply below_drew1 | refine below_set ?_ GE114.out | refine below_set ?_ GE115.out | refine below_set ?_ GE116.out | refine below_set ?_ GE117.out) | exact HB.out)⟩
/-- The pure statement of ladderbacklaw09_CountRises. -/
def ladderbacklaw09_CountRises.Pure : Prop := ∀ (y0 : List (S27)), (y0.length ≤ 9223372036854775807 ∧ ∀ y0_ ∈ y0, W27 y0_) → ∃ k, ladderbacklaw09_CountRises.f k y0 = some true

end Go.Proofs.Ythldpihpjekleaa.QCountRises
