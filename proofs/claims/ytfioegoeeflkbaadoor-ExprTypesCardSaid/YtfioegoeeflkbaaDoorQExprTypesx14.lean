-- Printed by a program of this session's over the kit's printer (wip/patch_print.py).
import Derived.Test.YtfioegoeeflkbaaDoorQExprTypesx0
import Derived.Test.YtfioegoeeflkbaaDoorQExprTypesx11
import Derived.Test.YtfioegoeeflkbaaDoorQExprTypesx13
namespace Go.Proofs.YtfioegoeeflkbaaDoor.QExprTypes
open Go.RowKit Go.Proofs.YtfioegoeeflkbaaDoor Go.Proofs.YtfioegoeeflkbaaDoorW.PrintWords Go.Proofs.YtfioegoeeflkbaaDoorW.PrintLast Go.Proofs.YtfioegoeeflkbaaDoorW.PrintMore
attribute [local go_sem] setCell_drewN0 max2_int min2_int max_two min_two max_three min_three max_four min_four   -- for this text's walks alone
set_option linter.unusedVariables false
set_option linter.unusedSimpArgs false

/-! ### ladderbackref26_Type: function 16 -/
mutual
def ladderbackref26_Type.j0 : Nat → Int → Int → Int → List (S42) → List (S44) → List (S99) → List Int → Int → Int → Int → Int → List (S30) → Option (Int)
 | 0, _, _, _, _, _, _, _, _, _, _, _, _ => none
 | k + 1, x5, x6, x7, x227000, x227001, x227002, x227003, x228000, x228001, x228002, x228003, x228004 => if x5 > 1 then (if 1 < (x228004.length : Int) then ((ladderbackref26_Type.f k x227000 x227001 x227002 x227003 ((rd_T30 x228004 1).f0) ((rd_T30 x228004 1).f1) ((rd_T30 x228004 1).f2) ((rd_T30 x228004 1).f3) ((rd_T30 x228004 1).f4)).bind fun t231 => (ladderbackref26_Type.j1 k x5 x6 t231 x227000 x227001 x227002 x227003 x228000 x228001 x228002 x228003 x228004)) else (none)) else (ladderbackref26_Type.j1 k x5 x6 x7 x227000 x227001 x227002 x227003 x228000 x228001 x228002 x228003 x228004)
def ladderbackref26_Type.j1 : Nat → Int → Int → Int → List (S42) → List (S44) → List (S99) → List Int → Int → Int → Int → Int → List (S30) → Option (Int)
 | 0, _, _, _, _, _, _, _, _, _, _, _, _ => none
 | k + 1, x5, x6, x7, x227000, x227001, x227002, x227003, x228000, x228001, x228002, x228003, x228004 => if x5 > 2 then (ladderbackref26_Type.j2 k x5 x6 x7 true x227000 x227001 x227002 x227003 x228000 x228001 x228002 x228003 x228004) else (if x5 > 0 then (if x6 = 0 then (ladderbackref26_Type.j2 k x5 x6 x7 true x227000 x227001 x227002 x227003 x228000 x228001 x228002 x228003 x228004) else (if x5 > 1 then (ladderbackref26_Type.j2 k x5 x6 x7 (x7 == 0) x227000 x227001 x227002 x227003 x228000 x228001 x228002 x228003 x228004) else (ladderbackref26_Type.j2 k x5 x6 x7 false x227000 x227001 x227002 x227003 x228000 x228001 x228002 x228003 x228004))) else (if x5 > 1 then (ladderbackref26_Type.j2 k x5 x6 x7 (x7 == 0) x227000 x227001 x227002 x227003 x228000 x228001 x228002 x228003 x228004) else (ladderbackref26_Type.j2 k x5 x6 x7 false x227000 x227001 x227002 x227003 x228000 x228001 x228002 x228003 x228004)))
def ladderbackref26_Type.j2 : Nat → Int → Int → Int → Bool → List (S42) → List (S44) → List (S99) → List Int → Int → Int → Int → Int → List (S30) → Option (Int)
 | 0, _, _, _, _, _, _, _, _, _, _, _, _, _ => none
 | k + 1, x5, x6, x7, x48, x227000, x227001, x227002, x227003, x228000, x228001, x228002, x228003, x228004 => if x48 = true then (some 0) else (if x228000 = 1 then (if x5 = 0 then (if x228003 = 0 then ((ladderbackref01_Right.f x228001).bind fun t232 => (if t232 = true then ((ladderbackref01_In.f x228001 x228002).bind fun t233 => (ladderbackref26_Type.j3 k 0 t233 x228000 x228001 x228002 x228003 x228004)) else (ladderbackref26_Type.j3 k 0 false x228000 x228001 x228002 x228003 x228004))) else (ladderbackref26_Type.j3 k 0 false x228000 x228001 x228002 x228003 x228004)) else (ladderbackref26_Type.j3 k 0 false x228000 x228001 x228002 x228003 x228004)) else (if x228000 = 2 then (ladderbackref26_Type.j4 k x5 x6 x7 0 x228000 (x228000 == 2) x227000 x227001 x227002 x227003 x228000 x228001 x228002 x228003 x228004) else (ladderbackref26_Type.j4 k x5 x6 x7 0 x228000 (x228000 == 4) x227000 x227001 x227002 x227003 x228000 x228001 x228002 x228003 x228004)))
def ladderbackref26_Type.j3 : Nat → Int → Bool → Int → Int → Int → Int → List (S30) → Option (Int)
 | 0, _, _, _, _, _, _, _ => none
 | k + 1, x8, x71, x228000, x228001, x228002, x228003, x228004 => if x71 = true then ((ladderbackref01_Right.f x228001).bind fun t234 => (if t234 = true then (some x228001) else (some 0))) else ((ladderbackref01_Right.f x8).bind fun t235 => (if t235 = true then (some x8) else (some 0)))
def ladderbackref26_Type.j4 : Nat → Int → Int → Int → Int → Int → Bool → List (S42) → List (S44) → List (S99) → List Int → Int → Int → Int → Int → List (S30) → Option (Int)
 | 0, _, _, _, _, _, _, _, _, _, _, _, _, _, _, _ => none
 | k + 1, x5, x6, x7, x8, x50, x74, x227000, x227001, x227002, x227003, x228000, x228001, x228002, x228003, x228004 => if x74 = true then (if x5 = (wrap64 (Int.tdiv (wrap64 (x228000 - 2)) 2)) then (if x228001 = 0 then (if x228003 = 0 then (if x228002 ≥ 0 then (if x228002 < (x227000.length : Int) then (if 0 ≤ x228002 then (if ((decide (((rd_T42 x227000 x228002).f2) > 1)) == (x228000 == 4)) = true then (if x5 = 0 then (ladderbackref26_Type.j5 k x8 true x227000 x227001 x227002 x227003 x228000 x228001 x228002 x228003 x228004) else (ladderbackref26_Type.j5 k x8 (x6 == 2) x227000 x227001 x227002 x227003 x228000 x228001 x228002 x228003 x228004)) else (ladderbackref26_Type.j5 k x8 false x227000 x227001 x227002 x227003 x228000 x228001 x228002 x228003 x228004)) else (none)) else (ladderbackref26_Type.j5 k x8 false x227000 x227001 x227002 x227003 x228000 x228001 x228002 x228003 x228004)) else (ladderbackref26_Type.j5 k x8 false x227000 x227001 x227002 x227003 x228000 x228001 x228002 x228003 x228004)) else (ladderbackref26_Type.j5 k x8 false x227000 x227001 x227002 x227003 x228000 x228001 x228002 x228003 x228004)) else (ladderbackref26_Type.j5 k x8 false x227000 x227001 x227002 x227003 x228000 x228001 x228002 x228003 x228004)) else (ladderbackref26_Type.j5 k x8 false x227000 x227001 x227002 x227003 x228000 x228001 x228002 x228003 x228004)) else (if x50 = 3 then (if x5 = 0 then (if x228001 = 0 then (if x228003 = 0 then (if x228002 ≥ 0 then (ladderbackref26_Type.j6 k x8 (decide (x228002 < (x227003.length : Int))) x227000 x227001 x227002 x227003 x228000 x228001 x228002 x228003 x228004) else (ladderbackref26_Type.j6 k x8 false x227000 x227001 x227002 x227003 x228000 x228001 x228002 x228003 x228004)) else (ladderbackref26_Type.j6 k x8 false x227000 x227001 x227002 x227003 x228000 x228001 x228002 x228003 x228004)) else (ladderbackref26_Type.j6 k x8 false x227000 x227001 x227002 x227003 x228000 x228001 x228002 x228003 x228004)) else (ladderbackref26_Type.j6 k x8 false x227000 x227001 x227002 x227003 x228000 x228001 x228002 x228003 x228004)) else (if x50 = 5 then (if x5 = 0 then (if x228001 = 0 then (if x228002 ≥ 0 then (ladderbackref26_Type.j7 k x8 (decide (x228002 < (x227001.length : Int))) x227000 x227001 x227002 x227003 x228000 x228001 x228002 x228003 x228004) else (ladderbackref26_Type.j7 k x8 false x227000 x227001 x227002 x227003 x228000 x228001 x228002 x228003 x228004)) else (ladderbackref26_Type.j7 k x8 false x227000 x227001 x227002 x227003 x228000 x228001 x228002 x228003 x228004)) else (ladderbackref26_Type.j7 k x8 false x227000 x227001 x227002 x227003 x228000 x228001 x228002 x228003 x228004)) else (if x50 = 6 then (if x5 = 1 then (if x228001 = 0 then (if x228002 = 0 then (if x228003 = 13 then (ladderbackref26_Type.j9 k x6 x8 true x228000 x228001 x228002 x228003 x228004) else (ladderbackref26_Type.j9 k x6 x8 (x228003 == 17) x228000 x228001 x228002 x228003 x228004)) else (ladderbackref26_Type.j9 k x6 x8 false x228000 x228001 x228002 x228003 x228004)) else (ladderbackref26_Type.j9 k x6 x8 false x228000 x228001 x228002 x228003 x228004)) else (ladderbackref26_Type.j9 k x6 x8 false x228000 x228001 x228002 x228003 x228004)) else (if x50 = 7 then (if x5 = 2 then (if x228001 = 0 then (if x228002 = 0 then ((ladderbackref07_Binary.f x228003).bind fun t258 => (if t258 = true then (if x7 = x6 then (if x228003 = 18 then (if x7 = 2 then (ladderbackref26_Type.j10 k x6 x8 true x228000 x228001 x228002 x228003 x228004) else (ladderbackref26_Type.j10 k x6 x8 false x228000 x228001 x228002 x228003 x228004)) else (if x228003 = 19 then (if x7 = 2 then (ladderbackref26_Type.j10 k x6 x8 (x228003 == 19) x228000 x228001 x228002 x228003 x228004) else (ladderbackref26_Type.j10 k x6 x8 false x228000 x228001 x228002 x228003 x228004)) else (ladderbackref26_Type.j10 k x6 x8 true x228000 x228001 x228002 x228003 x228004))) else (if x7 = 2 then (if x228003 = 18 then (ladderbackref26_Type.j10 k x6 x8 true x228000 x228001 x228002 x228003 x228004) else (ladderbackref26_Type.j10 k x6 x8 (x228003 == 19) x228000 x228001 x228002 x228003 x228004)) else (ladderbackref26_Type.j10 k x6 x8 false x228000 x228001 x228002 x228003 x228004))) else (ladderbackref26_Type.j10 k x6 x8 false x228000 x228001 x228002 x228003 x228004))) else (ladderbackref26_Type.j10 k x6 x8 false x228000 x228001 x228002 x228003 x228004)) else (ladderbackref26_Type.j10 k x6 x8 false x228000 x228001 x228002 x228003 x228004)) else (ladderbackref26_Type.j10 k x6 x8 false x228000 x228001 x228002 x228003 x228004)) else (if x50 = 8 then (if x5 = 1 then (if x228002 = 0 then (ladderbackref26_Type.j11 k x8 (x228003 == 0) x228000 x228001 x228002 x228003 x228004) else (ladderbackref26_Type.j11 k x8 false x228000 x228001 x228002 x228003 x228004)) else (ladderbackref26_Type.j11 k x8 false x228000 x228001 x228002 x228003 x228004)) else ((ladderbackref01_Right.f x8).bind fun t264 => (if t264 = true then (some x8) else (some 0))))))))
def ladderbackref26_Type.j5 : Nat → Int → Bool → List (S42) → List (S44) → List (S99) → List Int → Int → Int → Int → Int → List (S30) → Option (Int)
 | 0, _, _, _, _, _, _, _, _, _, _, _ => none
 | k + 1, x8, x127, x227000, x227001, x227002, x227003, x228000, x228001, x228002, x228003, x228004 => if x127 = true then (if 0 ≤ x228002 then (if x228002 < (x227000.length : Int) then ((ladderbackref01_Right.f ((rd_T42 x227000 x228002).f1)).bind fun t238 => (if t238 = true then (some ((rd_T42 x227000 x228002).f1)) else (some 0))) else (none)) else (none)) else ((ladderbackref01_Right.f x8).bind fun t239 => (if t239 = true then (some x8) else (some 0)))
def ladderbackref26_Type.j6 : Nat → Int → Bool → List (S42) → List (S44) → List (S99) → List Int → Int → Int → Int → Int → List (S30) → Option (Int)
 | 0, _, _, _, _, _, _, _, _, _, _, _ => none
 | k + 1, x8, x161, x227000, x227001, x227002, x227003, x228000, x228001, x228002, x228003, x228004 => if x161 = true then (if 0 ≤ x228002 then (if x228002 < (x227003.length : Int) then ((ladderbackref01_Right.f (rd x227003 x228002)).bind fun t241 => (if t241 = true then (some (rd x227003 x228002)) else (some 0))) else (none)) else (none)) else ((ladderbackref01_Right.f x8).bind fun t242 => (if t242 = true then (some x8) else (some 0)))
def ladderbackref26_Type.j7 : Nat → Int → Bool → List (S42) → List (S44) → List (S99) → List Int → Int → Int → Int → Int → List (S30) → Option (Int)
 | 0, _, _, _, _, _, _, _, _, _, _, _ => none
 | k + 1, x8, x189, x227000, x227001, x227002, x227003, x228000, x228001, x228002, x228003, x228004 => if x189 = true then (if 0 ≤ x228002 then (if x228002 < (x227001.length : Int) then ((ladderbackref11_Fields.f k ((rd_T44 x227001 x228002).f1)).bind fun bt244 => (if x228003 ≥ 0 then (ladderbackref26_Type.j8 k x8 bt244.2.1 (decide (x228003 < (bt244.2.1.length : Int))) x228000 x228001 x228002 x228003 x228004) else (ladderbackref26_Type.j8 k x8 bt244.2.1 false x228000 x228001 x228002 x228003 x228004))) else (none)) else (none)) else ((ladderbackref01_Right.f x8).bind fun t254 => (if t254 = true then (some x8) else (some 0)))
def ladderbackref26_Type.j8 : Nat → Int → List Int → Bool → Int → Int → Int → Int → List (S30) → Option (Int)
 | 0, _, _, _, _, _, _, _, _ => none
 | k + 1, x8, x10, x211, x228000, x228001, x228002, x228003, x228004 => if x211 = true then (if 0 ≤ x228003 then (if x228003 < (x10.length : Int) then ((ladderbackref01_Right.f (rd x10 x228003)).bind fun t252 => (if t252 = true then (some (rd x10 x228003)) else (some 0))) else (none)) else (none)) else ((ladderbackref01_Right.f x8).bind fun t253 => (if t253 = true then (some x8) else (some 0)))
def ladderbackref26_Type.j9 : Nat → Int → Int → Bool → Int → Int → Int → Int → List (S30) → Option (Int)
 | 0, _, _, _, _, _, _, _, _ => none
 | k + 1, x6, x8, x240, x228000, x228001, x228002, x228003, x228004 => if x240 = true then ((ladderbackref07_Result.f k x228003 x6).bind fun t255 => ((ladderbackref01_Right.f t255).bind fun t256 => (if t256 = true then (some t255) else (some 0)))) else ((ladderbackref01_Right.f x8).bind fun t257 => (if t257 = true then (some x8) else (some 0)))
def ladderbackref26_Type.j10 : Nat → Int → Int → Bool → Int → Int → Int → Int → List (S30) → Option (Int)
 | 0, _, _, _, _, _, _, _, _ => none
 | k + 1, x6, x8, x292, x228000, x228001, x228002, x228003, x228004 => if x292 = true then ((ladderbackref07_Result.f k x228003 x6).bind fun t259 => ((ladderbackref01_Right.f t259).bind fun t260 => (if t260 = true then (some t259) else (some 0)))) else ((ladderbackref01_Right.f x8).bind fun t261 => (if t261 = true then (some x8) else (some 0)))
def ladderbackref26_Type.j11 : Nat → Int → Bool → Int → Int → Int → Int → List (S30) → Option (Int)
 | 0, _, _, _, _, _, _, _ => none
 | k + 1, x8, x310, x228000, x228001, x228002, x228003, x228004 => if x310 = true then ((ladderbackref01_Right.f x228001).bind fun t262 => (if t262 = true then (some x228001) else (some 0))) else ((ladderbackref01_Right.f x8).bind fun t263 => (if t263 = true then (some x8) else (some 0)))
def ladderbackref26_Type.f : Nat → List (S42) → List (S44) → List (S99) → List Int → Int → Int → Int → Int → List (S30) → Option (Int)
 | 0, _, _, _, _, _, _, _, _, _ => none
 | k + 1, l0_0, l0_1, l0_2, l0_3, a1_0, a1_1, a1_2, a1_3, l1_4 => if (l1_4.length : Int) > 0 then (if 0 < (l1_4.length : Int) then ((ladderbackref26_Type.f k l0_0 l0_1 l0_2 l0_3 ((rd_T30 l1_4 0).f0) ((rd_T30 l1_4 0).f1) ((rd_T30 l1_4 0).f2) ((rd_T30 l1_4 0).f3) ((rd_T30 l1_4 0).f4)).bind fun t229 => (ladderbackref26_Type.j0 k (l1_4.length : Int) t229 0 l0_0 l0_1 l0_2 l0_3 a1_0 a1_1 a1_2 a1_3 l1_4)) else (none)) else (ladderbackref26_Type.j0 k (l1_4.length : Int) 0 0 l0_0 l0_1 l0_2 l0_3 a1_0 a1_1 a1_2 a1_3 l1_4)
end
theorem ladderbackref26_Type.mono_l : ∀ k, (∀ y0 y1 y2 y3 y4 y5 y6 y7 y8, LeO (ladderbackref26_Type.f k y0 y1 y2 y3 y4 y5 y6 y7 y8) (ladderbackref26_Type.f (k + 1) y0 y1 y2 y3 y4 y5 y6 y7 y8)) ∧ (∀ y0 y1 y2 y3 y4 y5 y6 y7 y8 y9 y10 y11, LeO (ladderbackref26_Type.j0 k y0 y1 y2 y3 y4 y5 y6 y7 y8 y9 y10 y11) (ladderbackref26_Type.j0 (k + 1) y0 y1 y2 y3 y4 y5 y6 y7 y8 y9 y10 y11)) ∧ (∀ y0 y1 y2 y3 y4 y5 y6 y7 y8 y9 y10 y11, LeO (ladderbackref26_Type.j1 k y0 y1 y2 y3 y4 y5 y6 y7 y8 y9 y10 y11) (ladderbackref26_Type.j1 (k + 1) y0 y1 y2 y3 y4 y5 y6 y7 y8 y9 y10 y11)) ∧ (∀ y0 y1 y2 y3 y4 y5 y6 y7 y8 y9 y10 y11 y12, LeO (ladderbackref26_Type.j2 k y0 y1 y2 y3 y4 y5 y6 y7 y8 y9 y10 y11 y12) (ladderbackref26_Type.j2 (k + 1) y0 y1 y2 y3 y4 y5 y6 y7 y8 y9 y10 y11 y12)) ∧ (∀ y0 y1 y2 y3 y4 y5 y6, LeO (ladderbackref26_Type.j3 k y0 y1 y2 y3 y4 y5 y6) (ladderbackref26_Type.j3 (k + 1) y0 y1 y2 y3 y4 y5 y6)) ∧ (∀ y0 y1 y2 y3 y4 y5 y6 y7 y8 y9 y10 y11 y12 y13 y14, LeO (ladderbackref26_Type.j4 k y0 y1 y2 y3 y4 y5 y6 y7 y8 y9 y10 y11 y12 y13 y14) (ladderbackref26_Type.j4 (k + 1) y0 y1 y2 y3 y4 y5 y6 y7 y8 y9 y10 y11 y12 y13 y14)) ∧ (∀ y0 y1 y2 y3 y4 y5 y6 y7 y8 y9 y10, LeO (ladderbackref26_Type.j5 k y0 y1 y2 y3 y4 y5 y6 y7 y8 y9 y10) (ladderbackref26_Type.j5 (k + 1) y0 y1 y2 y3 y4 y5 y6 y7 y8 y9 y10)) ∧ (∀ y0 y1 y2 y3 y4 y5 y6 y7 y8 y9 y10, LeO (ladderbackref26_Type.j6 k y0 y1 y2 y3 y4 y5 y6 y7 y8 y9 y10) (ladderbackref26_Type.j6 (k + 1) y0 y1 y2 y3 y4 y5 y6 y7 y8 y9 y10)) ∧ (∀ y0 y1 y2 y3 y4 y5 y6 y7 y8 y9 y10, LeO (ladderbackref26_Type.j7 k y0 y1 y2 y3 y4 y5 y6 y7 y8 y9 y10) (ladderbackref26_Type.j7 (k + 1) y0 y1 y2 y3 y4 y5 y6 y7 y8 y9 y10)) ∧ (∀ y0 y1 y2 y3 y4 y5 y6 y7, LeO (ladderbackref26_Type.j8 k y0 y1 y2 y3 y4 y5 y6 y7) (ladderbackref26_Type.j8 (k + 1) y0 y1 y2 y3 y4 y5 y6 y7)) ∧ (∀ y0 y1 y2 y3 y4 y5 y6 y7, LeO (ladderbackref26_Type.j9 k y0 y1 y2 y3 y4 y5 y6 y7) (ladderbackref26_Type.j9 (k + 1) y0 y1 y2 y3 y4 y5 y6 y7)) ∧ (∀ y0 y1 y2 y3 y4 y5 y6 y7, LeO (ladderbackref26_Type.j10 k y0 y1 y2 y3 y4 y5 y6 y7) (ladderbackref26_Type.j10 (k + 1) y0 y1 y2 y3 y4 y5 y6 y7)) ∧ (∀ y0 y1 y2 y3 y4 y5 y6, LeO (ladderbackref26_Type.j11 k y0 y1 y2 y3 y4 y5 y6) (ladderbackref26_Type.j11 (k + 1) y0 y1 y2 y3 y4 y5 y6))
 | 0 => ⟨fun _ _ _ _ _ _ _ _ _ r h => by simp [ladderbackref26_Type.f] at h, fun _ _ _ _ _ _ _ _ _ _ _ _ r h => by simp [ladderbackref26_Type.j0] at h, fun _ _ _ _ _ _ _ _ _ _ _ _ r h => by simp [ladderbackref26_Type.j1] at h, fun _ _ _ _ _ _ _ _ _ _ _ _ _ r h => by simp [ladderbackref26_Type.j2] at h, fun _ _ _ _ _ _ _ r h => by simp [ladderbackref26_Type.j3] at h, fun _ _ _ _ _ _ _ _ _ _ _ _ _ _ _ r h => by simp [ladderbackref26_Type.j4] at h, fun _ _ _ _ _ _ _ _ _ _ _ r h => by simp [ladderbackref26_Type.j5] at h, fun _ _ _ _ _ _ _ _ _ _ _ r h => by simp [ladderbackref26_Type.j6] at h, fun _ _ _ _ _ _ _ _ _ _ _ r h => by simp [ladderbackref26_Type.j7] at h, fun _ _ _ _ _ _ _ _ r h => by simp [ladderbackref26_Type.j8] at h, fun _ _ _ _ _ _ _ _ r h => by simp [ladderbackref26_Type.j9] at h, fun _ _ _ _ _ _ _ _ r h => by simp [ladderbackref26_Type.j10] at h, fun _ _ _ _ _ _ _ r h => by simp [ladderbackref26_Type.j11] at h⟩
 | k + 1 => by
  obtain ⟨ih0, ih1, ih2, ih3, ih4, ih5, ih6, ih7, ih8, ih9, ih10, ih11, ih12⟩ := ladderbackref26_Type.mono_l k
  refine ⟨?_, ?_, ?_, ?_, ?_, ?_, ?_, ?_, ?_, ?_, ?_, ?_, ?_⟩
  ·
   intro y0 y1 y2 y3 y4 y5 y6 y7 y8
   unfold ladderbackref26_Type.f
   repeat' first
   | (with_reducible exact ih0 _ _ _ _ _ _ _ _ _)
   | (with_reducible exact ih1 _ _ _ _ _ _ _ _ _ _ _ _)
   | (with_reducible exact ih2 _ _ _ _ _ _ _ _ _ _ _ _)
   | (with_reducible exact ih3 _ _ _ _ _ _ _ _ _ _ _ _ _)
   | (with_reducible exact ih4 _ _ _ _ _ _ _)
   | (with_reducible exact ih5 _ _ _ _ _ _ _ _ _ _ _ _ _ _ _)
   | (with_reducible exact ih6 _ _ _ _ _ _ _ _ _ _ _)
   | (with_reducible exact ih7 _ _ _ _ _ _ _ _ _ _ _)
   | (with_reducible exact ih8 _ _ _ _ _ _ _ _ _ _ _)
   | (with_reducible exact ih9 _ _ _ _ _ _ _ _)
   | (with_reducible exact ih10 _ _ _ _ _ _ _ _)
   | (with_reducible exact ih11 _ _ _ _ _ _ _ _)
   | (with_reducible exact ih12 _ _ _ _ _ _ _)
   | (with_reducible exact ladderbackref07_Result.mono _ _ _)
   | (with_reducible exact ladderbackref11_Fields.mono _ _)
   | (with_reducible exact LeO.refl _)
   | (with_reducible exact LeO.none _)
   | (with_reducible refine LeO.ite ?_ ?_)
   | (with_reducible refine LeO.bind ?_ (fun _ => ?_))
   | exact ih0 _ _ _ _ _ _ _ _ _
   | exact ih1 _ _ _ _ _ _ _ _ _ _ _ _
   | exact ih2 _ _ _ _ _ _ _ _ _ _ _ _
   | exact ih3 _ _ _ _ _ _ _ _ _ _ _ _ _
   | exact ih4 _ _ _ _ _ _ _
   | exact ih5 _ _ _ _ _ _ _ _ _ _ _ _ _ _ _
   | exact ih6 _ _ _ _ _ _ _ _ _ _ _
   | exact ih7 _ _ _ _ _ _ _ _ _ _ _
   | exact ih8 _ _ _ _ _ _ _ _ _ _ _
   | exact ih9 _ _ _ _ _ _ _ _
   | exact ih10 _ _ _ _ _ _ _ _
   | exact ih11 _ _ _ _ _ _ _ _
   | exact ih12 _ _ _ _ _ _ _
   | exact ladderbackref07_Result.mono _ _ _
   | exact ladderbackref11_Fields.mono _ _
   | exact LeO.none _
   | refine LeO.ite ?_ ?_
   | refine LeO.bind ?_ (fun _ => ?_)
  ·
   intro y0 y1 y2 y3 y4 y5 y6 y7 y8 y9 y10 y11
   unfold ladderbackref26_Type.j0
   repeat' first
   | (with_reducible exact ih0 _ _ _ _ _ _ _ _ _)
   | (with_reducible exact ih1 _ _ _ _ _ _ _ _ _ _ _ _)
   | (with_reducible exact ih2 _ _ _ _ _ _ _ _ _ _ _ _)
   | (with_reducible exact ih3 _ _ _ _ _ _ _ _ _ _ _ _ _)
   | (with_reducible exact ih4 _ _ _ _ _ _ _)
   | (with_reducible exact ih5 _ _ _ _ _ _ _ _ _ _ _ _ _ _ _)
   | (with_reducible exact ih6 _ _ _ _ _ _ _ _ _ _ _)
   | (with_reducible exact ih7 _ _ _ _ _ _ _ _ _ _ _)
   | (with_reducible exact ih8 _ _ _ _ _ _ _ _ _ _ _)
   | (with_reducible exact ih9 _ _ _ _ _ _ _ _)
   | (with_reducible exact ih10 _ _ _ _ _ _ _ _)
   | (with_reducible exact ih11 _ _ _ _ _ _ _ _)
   | (with_reducible exact ih12 _ _ _ _ _ _ _)
   | (with_reducible exact ladderbackref07_Result.mono _ _ _)
   | (with_reducible exact ladderbackref11_Fields.mono _ _)
   | (with_reducible exact LeO.refl _)
   | (with_reducible exact LeO.none _)
   | (with_reducible refine LeO.ite ?_ ?_)
   | (with_reducible refine LeO.bind ?_ (fun _ => ?_))
   | exact ih0 _ _ _ _ _ _ _ _ _
   | exact ih1 _ _ _ _ _ _ _ _ _ _ _ _
   | exact ih2 _ _ _ _ _ _ _ _ _ _ _ _
   | exact ih3 _ _ _ _ _ _ _ _ _ _ _ _ _
   | exact ih4 _ _ _ _ _ _ _
   | exact ih5 _ _ _ _ _ _ _ _ _ _ _ _ _ _ _
   | exact ih6 _ _ _ _ _ _ _ _ _ _ _
   | exact ih7 _ _ _ _ _ _ _ _ _ _ _
   | exact ih8 _ _ _ _ _ _ _ _ _ _ _
   | exact ih9 _ _ _ _ _ _ _ _
   | exact ih10 _ _ _ _ _ _ _ _
   | exact ih11 _ _ _ _ _ _ _ _
   | exact ih12 _ _ _ _ _ _ _
   | exact ladderbackref07_Result.mono _ _ _
   | exact ladderbackref11_Fields.mono _ _
   | exact LeO.none _
   | refine LeO.ite ?_ ?_
   | refine LeO.bind ?_ (fun _ => ?_)
  ·
   intro y0 y1 y2 y3 y4 y5 y6 y7 y8 y9 y10 y11
   unfold ladderbackref26_Type.j1
   repeat' first
   | (with_reducible exact ih0 _ _ _ _ _ _ _ _ _)
   | (with_reducible exact ih1 _ _ _ _ _ _ _ _ _ _ _ _)
   | (with_reducible exact ih2 _ _ _ _ _ _ _ _ _ _ _ _)
   | (with_reducible exact ih3 _ _ _ _ _ _ _ _ _ _ _ _ _)
   | (with_reducible exact ih4 _ _ _ _ _ _ _)
   | (with_reducible exact ih5 _ _ _ _ _ _ _ _ _ _ _ _ _ _ _)
   | (with_reducible exact ih6 _ _ _ _ _ _ _ _ _ _ _)
   | (with_reducible exact ih7 _ _ _ _ _ _ _ _ _ _ _)
   | (with_reducible exact ih8 _ _ _ _ _ _ _ _ _ _ _)
   | (with_reducible exact ih9 _ _ _ _ _ _ _ _)
   | (with_reducible exact ih10 _ _ _ _ _ _ _ _)
   | (with_reducible exact ih11 _ _ _ _ _ _ _ _)
   | (with_reducible exact ih12 _ _ _ _ _ _ _)
   | (with_reducible exact ladderbackref07_Result.mono _ _ _)
   | (with_reducible exact ladderbackref11_Fields.mono _ _)
   | (with_reducible exact LeO.refl _)
   | (with_reducible exact LeO.none _)
   | (with_reducible refine LeO.ite ?_ ?_)
   | (with_reducible refine LeO.bind ?_ (fun _ => ?_))
   | exact ih0 _ _ _ _ _ _ _ _ _
   | exact ih1 _ _ _ _ _ _ _ _ _ _ _ _
   | exact ih2 _ _ _ _ _ _ _ _ _ _ _ _
   | exact ih3 _ _ _ _ _ _ _ _ _ _ _ _ _
   | exact ih4 _ _ _ _ _ _ _
   | exact ih5 _ _ _ _ _ _ _ _ _ _ _ _ _ _ _
   | exact ih6 _ _ _ _ _ _ _ _ _ _ _
   | exact ih7 _ _ _ _ _ _ _ _ _ _ _
   | exact ih8 _ _ _ _ _ _ _ _ _ _ _
   | exact ih9 _ _ _ _ _ _ _ _
   | exact ih10 _ _ _ _ _ _ _ _
   | exact ih11 _ _ _ _ _ _ _ _
   | exact ih12 _ _ _ _ _ _ _
   | exact ladderbackref07_Result.mono _ _ _
   | exact ladderbackref11_Fields.mono _ _
   | exact LeO.none _
   | refine LeO.ite ?_ ?_
   | refine LeO.bind ?_ (fun _ => ?_)
  ·
   intro y0 y1 y2 y3 y4 y5 y6 y7 y8 y9 y10 y11 y12
   unfold ladderbackref26_Type.j2
   repeat' first
   | (with_reducible exact ih0 _ _ _ _ _ _ _ _ _)
   | (with_reducible exact ih1 _ _ _ _ _ _ _ _ _ _ _ _)
   | (with_reducible exact ih2 _ _ _ _ _ _ _ _ _ _ _ _)
   | (with_reducible exact ih3 _ _ _ _ _ _ _ _ _ _ _ _ _)
   | (with_reducible exact ih4 _ _ _ _ _ _ _)
   | (with_reducible exact ih5 _ _ _ _ _ _ _ _ _ _ _ _ _ _ _)
   | (with_reducible exact ih6 _ _ _ _ _ _ _ _ _ _ _)
   | (with_reducible exact ih7 _ _ _ _ _ _ _ _ _ _ _)
   | (with_reducible exact ih8 _ _ _ _ _ _ _ _ _ _ _)
   | (with_reducible exact ih9 _ _ _ _ _ _ _ _)
   | (with_reducible exact ih10 _ _ _ _ _ _ _ _)
   | (with_reducible exact ih11 _ _ _ _ _ _ _ _)
   | (with_reducible exact ih12 _ _ _ _ _ _ _)
   | (with_reducible exact ladderbackref07_Result.mono _ _ _)
   | (with_reducible exact ladderbackref11_Fields.mono _ _)
   | (with_reducible exact LeO.refl _)
   | (with_reducible exact LeO.none _)
   | (with_reducible refine LeO.ite ?_ ?_)
   | (with_reducible refine LeO.bind ?_ (fun _ => ?_))
   | exact ih0 _ _ _ _ _ _ _ _ _
   | exact ih1 _ _ _ _ _ _ _ _ _ _ _ _
   | exact ih2 _ _ _ _ _ _ _ _ _ _ _ _
   | exact ih3 _ _ _ _ _ _ _ _ _ _ _ _ _
   | exact ih4 _ _ _ _ _ _ _
   | exact ih5 _ _ _ _ _ _ _ _ _ _ _ _ _ _ _
   | exact ih6 _ _ _ _ _ _ _ _ _ _ _
   | exact ih7 _ _ _ _ _ _ _ _ _ _ _
   | exact ih8 _ _ _ _ _ _ _ _ _ _ _
   | exact ih9 _ _ _ _ _ _ _ _
   | exact ih10 _ _ _ _ _ _ _ _
   | exact ih11 _ _ _ _ _ _ _ _
   | exact ih12 _ _ _ _ _ _ _
   | exact ladderbackref07_Result.mono _ _ _
   | exact ladderbackref11_Fields.mono _ _
   | exact LeO.none _
   | refine LeO.ite ?_ ?_
   | refine LeO.bind ?_ (fun _ => ?_)
  ·
   intro y0 y1 y2 y3 y4 y5 y6
   unfold ladderbackref26_Type.j3
   repeat' first
   | (with_reducible exact ih0 _ _ _ _ _ _ _ _ _)
   | (with_reducible exact ih1 _ _ _ _ _ _ _ _ _ _ _ _)
   | (with_reducible exact ih2 _ _ _ _ _ _ _ _ _ _ _ _)
   | (with_reducible exact ih3 _ _ _ _ _ _ _ _ _ _ _ _ _)
   | (with_reducible exact ih4 _ _ _ _ _ _ _)
   | (with_reducible exact ih5 _ _ _ _ _ _ _ _ _ _ _ _ _ _ _)
   | (with_reducible exact ih6 _ _ _ _ _ _ _ _ _ _ _)
   | (with_reducible exact ih7 _ _ _ _ _ _ _ _ _ _ _)
   | (with_reducible exact ih8 _ _ _ _ _ _ _ _ _ _ _)
   | (with_reducible exact ih9 _ _ _ _ _ _ _ _)
   | (with_reducible exact ih10 _ _ _ _ _ _ _ _)
   | (with_reducible exact ih11 _ _ _ _ _ _ _ _)
   | (with_reducible exact ih12 _ _ _ _ _ _ _)
   | (with_reducible exact ladderbackref07_Result.mono _ _ _)
   | (with_reducible exact ladderbackref11_Fields.mono _ _)
   | (with_reducible exact LeO.refl _)
   | (with_reducible exact LeO.none _)
   | (with_reducible refine LeO.ite ?_ ?_)
   | (with_reducible refine LeO.bind ?_ (fun _ => ?_))
   | exact ih0 _ _ _ _ _ _ _ _ _
   | exact ih1 _ _ _ _ _ _ _ _ _ _ _ _
   | exact ih2 _ _ _ _ _ _ _ _ _ _ _ _
   | exact ih3 _ _ _ _ _ _ _ _ _ _ _ _ _
   | exact ih4 _ _ _ _ _ _ _
   | exact ih5 _ _ _ _ _ _ _ _ _ _ _ _ _ _ _
   | exact ih6 _ _ _ _ _ _ _ _ _ _ _
   | exact ih7 _ _ _ _ _ _ _ _ _ _ _
   | exact ih8 _ _ _ _ _ _ _ _ _ _ _
   | exact ih9 _ _ _ _ _ _ _ _
   | exact ih10 _ _ _ _ _ _ _ _
   | exact ih11 _ _ _ _ _ _ _ _
   | exact ih12 _ _ _ _ _ _ _
   | exact ladderbackref07_Result.mono _ _ _
   | exact ladderbackref11_Fields.mono _ _
   | exact LeO.none _
   | refine LeO.ite ?_ ?_
   | refine LeO.bind ?_ (fun _ => ?_)
  ·
   intro y0 y1 y2 y3 y4 y5 y6 y7 y8 y9 y10 y11 y12 y13 y14
   unfold ladderbackref26_Type.j4
   repeat' first
   | (with_reducible exact ih0 _ _ _ _ _ _ _ _ _)
   | (with_reducible exact ih1 _ _ _ _ _ _ _ _ _ _ _ _)
   | (with_reducible exact ih2 _ _ _ _ _ _ _ _ _ _ _ _)
   | (with_reducible exact ih3 _ _ _ _ _ _ _ _ _ _ _ _ _)
   | (with_reducible exact ih4 _ _ _ _ _ _ _)
   | (with_reducible exact ih5 _ _ _ _ _ _ _ _ _ _ _ _ _ _ _)
   | (with_reducible exact ih6 _ _ _ _ _ _ _ _ _ _ _)
   | (with_reducible exact ih7 _ _ _ _ _ _ _ _ _ _ _)
   | (with_reducible exact ih8 _ _ _ _ _ _ _ _ _ _ _)
   | (with_reducible exact ih9 _ _ _ _ _ _ _ _)
   | (with_reducible exact ih10 _ _ _ _ _ _ _ _)
   | (with_reducible exact ih11 _ _ _ _ _ _ _ _)
   | (with_reducible exact ih12 _ _ _ _ _ _ _)
   | (with_reducible exact ladderbackref07_Result.mono _ _ _)
   | (with_reducible exact ladderbackref11_Fields.mono _ _)
   | (with_reducible exact LeO.refl _)
   | (with_reducible exact LeO.none _)
   | (with_reducible refine LeO.ite ?_ ?_)
   | (with_reducible refine LeO.bind ?_ (fun _ => ?_))
   | exact ih0 _ _ _ _ _ _ _ _ _
   | exact ih1 _ _ _ _ _ _ _ _ _ _ _ _
   | exact ih2 _ _ _ _ _ _ _ _ _ _ _ _
   | exact ih3 _ _ _ _ _ _ _ _ _ _ _ _ _
   | exact ih4 _ _ _ _ _ _ _
   | exact ih5 _ _ _ _ _ _ _ _ _ _ _ _ _ _ _
   | exact ih6 _ _ _ _ _ _ _ _ _ _ _
   | exact ih7 _ _ _ _ _ _ _ _ _ _ _
   | exact ih8 _ _ _ _ _ _ _ _ _ _ _
   | exact ih9 _ _ _ _ _ _ _ _
   | exact ih10 _ _ _ _ _ _ _ _
   | exact ih11 _ _ _ _ _ _ _ _
   | exact ih12 _ _ _ _ _ _ _
   | exact ladderbackref07_Result.mono _ _ _
   | exact ladderbackref11_Fields.mono _ _
   | exact LeO.none _
   | refine LeO.ite ?_ ?_
   | refine LeO.bind ?_ (fun _ => ?_)
  ·
   intro y0 y1 y2 y3 y4 y5 y6 y7 y8 y9 y10
   unfold ladderbackref26_Type.j5
   repeat' first
   | (with_reducible exact ih0 _ _ _ _ _ _ _ _ _)
   | (with_reducible exact ih1 _ _ _ _ _ _ _ _ _ _ _ _)
   | (with_reducible exact ih2 _ _ _ _ _ _ _ _ _ _ _ _)
   | (with_reducible exact ih3 _ _ _ _ _ _ _ _ _ _ _ _ _)
   | (with_reducible exact ih4 _ _ _ _ _ _ _)
   | (with_reducible exact ih5 _ _ _ _ _ _ _ _ _ _ _ _ _ _ _)
   | (with_reducible exact ih6 _ _ _ _ _ _ _ _ _ _ _)
   | (with_reducible exact ih7 _ _ _ _ _ _ _ _ _ _ _)
   | (with_reducible exact ih8 _ _ _ _ _ _ _ _ _ _ _)
   | (with_reducible exact ih9 _ _ _ _ _ _ _ _)
   | (with_reducible exact ih10 _ _ _ _ _ _ _ _)
   | (with_reducible exact ih11 _ _ _ _ _ _ _ _)
   | (with_reducible exact ih12 _ _ _ _ _ _ _)
   | (with_reducible exact ladderbackref07_Result.mono _ _ _)
   | (with_reducible exact ladderbackref11_Fields.mono _ _)
   | (with_reducible exact LeO.refl _)
   | (with_reducible exact LeO.none _)
   | (with_reducible refine LeO.ite ?_ ?_)
   | (with_reducible refine LeO.bind ?_ (fun _ => ?_))
   | exact ih0 _ _ _ _ _ _ _ _ _
   | exact ih1 _ _ _ _ _ _ _ _ _ _ _ _
   | exact ih2 _ _ _ _ _ _ _ _ _ _ _ _
   | exact ih3 _ _ _ _ _ _ _ _ _ _ _ _ _
   | exact ih4 _ _ _ _ _ _ _
   | exact ih5 _ _ _ _ _ _ _ _ _ _ _ _ _ _ _
   | exact ih6 _ _ _ _ _ _ _ _ _ _ _
   | exact ih7 _ _ _ _ _ _ _ _ _ _ _
   | exact ih8 _ _ _ _ _ _ _ _ _ _ _
   | exact ih9 _ _ _ _ _ _ _ _
   | exact ih10 _ _ _ _ _ _ _ _
   | exact ih11 _ _ _ _ _ _ _ _
   | exact ih12 _ _ _ _ _ _ _
   | exact ladderbackref07_Result.mono _ _ _
   | exact ladderbackref11_Fields.mono _ _
   | exact LeO.none _
   | refine LeO.ite ?_ ?_
   | refine LeO.bind ?_ (fun _ => ?_)
  ·
   intro y0 y1 y2 y3 y4 y5 y6 y7 y8 y9 y10
   unfold ladderbackref26_Type.j6
   repeat' first
   | (with_reducible exact ih0 _ _ _ _ _ _ _ _ _)
   | (with_reducible exact ih1 _ _ _ _ _ _ _ _ _ _ _ _)
   | (with_reducible exact ih2 _ _ _ _ _ _ _ _ _ _ _ _)
   | (with_reducible exact ih3 _ _ _ _ _ _ _ _ _ _ _ _ _)
   | (with_reducible exact ih4 _ _ _ _ _ _ _)
   | (with_reducible exact ih5 _ _ _ _ _ _ _ _ _ _ _ _ _ _ _)
   | (with_reducible exact ih6 _ _ _ _ _ _ _ _ _ _ _)
   | (with_reducible exact ih7 _ _ _ _ _ _ _ _ _ _ _)
   | (with_reducible exact ih8 _ _ _ _ _ _ _ _ _ _ _)
   | (with_reducible exact ih9 _ _ _ _ _ _ _ _)
   | (with_reducible exact ih10 _ _ _ _ _ _ _ _)
   | (with_reducible exact ih11 _ _ _ _ _ _ _ _)
   | (with_reducible exact ih12 _ _ _ _ _ _ _)
   | (with_reducible exact ladderbackref07_Result.mono _ _ _)
   | (with_reducible exact ladderbackref11_Fields.mono _ _)
   | (with_reducible exact LeO.refl _)
   | (with_reducible exact LeO.none _)
   | (with_reducible refine LeO.ite ?_ ?_)
   | (with_reducible refine LeO.bind ?_ (fun _ => ?_))
   | exact ih0 _ _ _ _ _ _ _ _ _
   | exact ih1 _ _ _ _ _ _ _ _ _ _ _ _
   | exact ih2 _ _ _ _ _ _ _ _ _ _ _ _
   | exact ih3 _ _ _ _ _ _ _ _ _ _ _ _ _
   | exact ih4 _ _ _ _ _ _ _
   | exact ih5 _ _ _ _ _ _ _ _ _ _ _ _ _ _ _
   | exact ih6 _ _ _ _ _ _ _ _ _ _ _
   | exact ih7 _ _ _ _ _ _ _ _ _ _ _
   | exact ih8 _ _ _ _ _ _ _ _ _ _ _
   | exact ih9 _ _ _ _ _ _ _ _
   | exact ih10 _ _ _ _ _ _ _ _
   | exact ih11 _ _ _ _ _ _ _ _
   | exact ih12 _ _ _ _ _ _ _
   | exact ladderbackref07_Result.mono _ _ _
   | exact ladderbackref11_Fields.mono _ _
   | exact LeO.none _
   | refine LeO.ite ?_ ?_
   | refine LeO.bind ?_ (fun _ => ?_)
  ·
   intro y0 y1 y2 y3 y4 y5 y6 y7 y8 y9 y10
   unfold ladderbackref26_Type.j7
   repeat' first
   | (with_reducible exact ih0 _ _ _ _ _ _ _ _ _)
   | (with_reducible exact ih1 _ _ _ _ _ _ _ _ _ _ _ _)
   | (with_reducible exact ih2 _ _ _ _ _ _ _ _ _ _ _ _)
   | (with_reducible exact ih3 _ _ _ _ _ _ _ _ _ _ _ _ _)
   | (with_reducible exact ih4 _ _ _ _ _ _ _)
   | (with_reducible exact ih5 _ _ _ _ _ _ _ _ _ _ _ _ _ _ _)
   | (with_reducible exact ih6 _ _ _ _ _ _ _ _ _ _ _)
   | (with_reducible exact ih7 _ _ _ _ _ _ _ _ _ _ _)
   | (with_reducible exact ih8 _ _ _ _ _ _ _ _ _ _ _)
   | (with_reducible exact ih9 _ _ _ _ _ _ _ _)
   | (with_reducible exact ih10 _ _ _ _ _ _ _ _)
   | (with_reducible exact ih11 _ _ _ _ _ _ _ _)
   | (with_reducible exact ih12 _ _ _ _ _ _ _)
   | (with_reducible exact ladderbackref07_Result.mono _ _ _)
   | (with_reducible exact ladderbackref11_Fields.mono _ _)
   | (with_reducible exact LeO.refl _)
   | (with_reducible exact LeO.none _)
   | (with_reducible refine LeO.ite ?_ ?_)
   | (with_reducible refine LeO.bind ?_ (fun _ => ?_))
   | exact ih0 _ _ _ _ _ _ _ _ _
   | exact ih1 _ _ _ _ _ _ _ _ _ _ _ _
   | exact ih2 _ _ _ _ _ _ _ _ _ _ _ _
   | exact ih3 _ _ _ _ _ _ _ _ _ _ _ _ _
   | exact ih4 _ _ _ _ _ _ _
   | exact ih5 _ _ _ _ _ _ _ _ _ _ _ _ _ _ _
   | exact ih6 _ _ _ _ _ _ _ _ _ _ _
   | exact ih7 _ _ _ _ _ _ _ _ _ _ _
   | exact ih8 _ _ _ _ _ _ _ _ _ _ _
   | exact ih9 _ _ _ _ _ _ _ _
   | exact ih10 _ _ _ _ _ _ _ _
   | exact ih11 _ _ _ _ _ _ _ _
   | exact ih12 _ _ _ _ _ _ _
   | exact ladderbackref07_Result.mono _ _ _
   | exact ladderbackref11_Fields.mono _ _
   | exact LeO.none _
   | refine LeO.ite ?_ ?_
   | refine LeO.bind ?_ (fun _ => ?_)
  ·
   intro y0 y1 y2 y3 y4 y5 y6 y7
   unfold ladderbackref26_Type.j8
   repeat' first
   | (with_reducible exact ih0 _ _ _ _ _ _ _ _ _)
   | (with_reducible exact ih1 _ _ _ _ _ _ _ _ _ _ _ _)
   | (with_reducible exact ih2 _ _ _ _ _ _ _ _ _ _ _ _)
   | (with_reducible exact ih3 _ _ _ _ _ _ _ _ _ _ _ _ _)
   | (with_reducible exact ih4 _ _ _ _ _ _ _)
   | (with_reducible exact ih5 _ _ _ _ _ _ _ _ _ _ _ _ _ _ _)
   | (with_reducible exact ih6 _ _ _ _ _ _ _ _ _ _ _)
   | (with_reducible exact ih7 _ _ _ _ _ _ _ _ _ _ _)
   | (with_reducible exact ih8 _ _ _ _ _ _ _ _ _ _ _)
   | (with_reducible exact ih9 _ _ _ _ _ _ _ _)
   | (with_reducible exact ih10 _ _ _ _ _ _ _ _)
   | (with_reducible exact ih11 _ _ _ _ _ _ _ _)
   | (with_reducible exact ih12 _ _ _ _ _ _ _)
   | (with_reducible exact ladderbackref07_Result.mono _ _ _)
   | (with_reducible exact ladderbackref11_Fields.mono _ _)
   | (with_reducible exact LeO.refl _)
   | (with_reducible exact LeO.none _)
   | (with_reducible refine LeO.ite ?_ ?_)
   | (with_reducible refine LeO.bind ?_ (fun _ => ?_))
   | exact ih0 _ _ _ _ _ _ _ _ _
   | exact ih1 _ _ _ _ _ _ _ _ _ _ _ _
   | exact ih2 _ _ _ _ _ _ _ _ _ _ _ _
   | exact ih3 _ _ _ _ _ _ _ _ _ _ _ _ _
   | exact ih4 _ _ _ _ _ _ _
   | exact ih5 _ _ _ _ _ _ _ _ _ _ _ _ _ _ _
   | exact ih6 _ _ _ _ _ _ _ _ _ _ _
   | exact ih7 _ _ _ _ _ _ _ _ _ _ _
   | exact ih8 _ _ _ _ _ _ _ _ _ _ _
   | exact ih9 _ _ _ _ _ _ _ _
   | exact ih10 _ _ _ _ _ _ _ _
   | exact ih11 _ _ _ _ _ _ _ _
   | exact ih12 _ _ _ _ _ _ _
   | exact ladderbackref07_Result.mono _ _ _
   | exact ladderbackref11_Fields.mono _ _
   | exact LeO.none _
   | refine LeO.ite ?_ ?_
   | refine LeO.bind ?_ (fun _ => ?_)
  ·
   intro y0 y1 y2 y3 y4 y5 y6 y7
   unfold ladderbackref26_Type.j9
   repeat' first
   | (with_reducible exact ih0 _ _ _ _ _ _ _ _ _)
   | (with_reducible exact ih1 _ _ _ _ _ _ _ _ _ _ _ _)
   | (with_reducible exact ih2 _ _ _ _ _ _ _ _ _ _ _ _)
   | (with_reducible exact ih3 _ _ _ _ _ _ _ _ _ _ _ _ _)
   | (with_reducible exact ih4 _ _ _ _ _ _ _)
   | (with_reducible exact ih5 _ _ _ _ _ _ _ _ _ _ _ _ _ _ _)
   | (with_reducible exact ih6 _ _ _ _ _ _ _ _ _ _ _)
   | (with_reducible exact ih7 _ _ _ _ _ _ _ _ _ _ _)
   | (with_reducible exact ih8 _ _ _ _ _ _ _ _ _ _ _)
   | (with_reducible exact ih9 _ _ _ _ _ _ _ _)
   | (with_reducible exact ih10 _ _ _ _ _ _ _ _)
   | (with_reducible exact ih11 _ _ _ _ _ _ _ _)
   | (with_reducible exact ih12 _ _ _ _ _ _ _)
   | (with_reducible exact ladderbackref07_Result.mono _ _ _)
   | (with_reducible exact ladderbackref11_Fields.mono _ _)
   | (with_reducible exact LeO.refl _)
   | (with_reducible exact LeO.none _)
   | (with_reducible refine LeO.ite ?_ ?_)
   | (with_reducible refine LeO.bind ?_ (fun _ => ?_))
   | exact ih0 _ _ _ _ _ _ _ _ _
   | exact ih1 _ _ _ _ _ _ _ _ _ _ _ _
   | exact ih2 _ _ _ _ _ _ _ _ _ _ _ _
   | exact ih3 _ _ _ _ _ _ _ _ _ _ _ _ _
   | exact ih4 _ _ _ _ _ _ _
   | exact ih5 _ _ _ _ _ _ _ _ _ _ _ _ _ _ _
   | exact ih6 _ _ _ _ _ _ _ _ _ _ _
   | exact ih7 _ _ _ _ _ _ _ _ _ _ _
   | exact ih8 _ _ _ _ _ _ _ _ _ _ _
   | exact ih9 _ _ _ _ _ _ _ _
   | exact ih10 _ _ _ _ _ _ _ _
   | exact ih11 _ _ _ _ _ _ _ _
   | exact ih12 _ _ _ _ _ _ _
   | exact ladderbackref07_Result.mono _ _ _
   | exact ladderbackref11_Fields.mono _ _
   | exact LeO.none _
   | refine LeO.ite ?_ ?_
   | refine LeO.bind ?_ (fun _ => ?_)
  ·
   intro y0 y1 y2 y3 y4 y5 y6 y7
   unfold ladderbackref26_Type.j10
   repeat' first
   | (with_reducible exact ih0 _ _ _ _ _ _ _ _ _)
   | (with_reducible exact ih1 _ _ _ _ _ _ _ _ _ _ _ _)
   | (with_reducible exact ih2 _ _ _ _ _ _ _ _ _ _ _ _)
   | (with_reducible exact ih3 _ _ _ _ _ _ _ _ _ _ _ _ _)
   | (with_reducible exact ih4 _ _ _ _ _ _ _)
   | (with_reducible exact ih5 _ _ _ _ _ _ _ _ _ _ _ _ _ _ _)
   | (with_reducible exact ih6 _ _ _ _ _ _ _ _ _ _ _)
   | (with_reducible exact ih7 _ _ _ _ _ _ _ _ _ _ _)
   | (with_reducible exact ih8 _ _ _ _ _ _ _ _ _ _ _)
   | (with_reducible exact ih9 _ _ _ _ _ _ _ _)
   | (with_reducible exact ih10 _ _ _ _ _ _ _ _)
   | (with_reducible exact ih11 _ _ _ _ _ _ _ _)
   | (with_reducible exact ih12 _ _ _ _ _ _ _)
   | (with_reducible exact ladderbackref07_Result.mono _ _ _)
   | (with_reducible exact ladderbackref11_Fields.mono _ _)
   | (with_reducible exact LeO.refl _)
   | (with_reducible exact LeO.none _)
   | (with_reducible refine LeO.ite ?_ ?_)
   | (with_reducible refine LeO.bind ?_ (fun _ => ?_))
   | exact ih0 _ _ _ _ _ _ _ _ _
   | exact ih1 _ _ _ _ _ _ _ _ _ _ _ _
   | exact ih2 _ _ _ _ _ _ _ _ _ _ _ _
   | exact ih3 _ _ _ _ _ _ _ _ _ _ _ _ _
   | exact ih4 _ _ _ _ _ _ _
   | exact ih5 _ _ _ _ _ _ _ _ _ _ _ _ _ _ _
   | exact ih6 _ _ _ _ _ _ _ _ _ _ _
   | exact ih7 _ _ _ _ _ _ _ _ _ _ _
   | exact ih8 _ _ _ _ _ _ _ _ _ _ _
   | exact ih9 _ _ _ _ _ _ _ _
   | exact ih10 _ _ _ _ _ _ _ _
   | exact ih11 _ _ _ _ _ _ _ _
   | exact ih12 _ _ _ _ _ _ _
   | exact ladderbackref07_Result.mono _ _ _
   | exact ladderbackref11_Fields.mono _ _
   | exact LeO.none _
   | refine LeO.ite ?_ ?_
   | refine LeO.bind ?_ (fun _ => ?_)
  ·
   intro y0 y1 y2 y3 y4 y5 y6
   unfold ladderbackref26_Type.j11
   repeat' first
   | (with_reducible exact ih0 _ _ _ _ _ _ _ _ _)
   | (with_reducible exact ih1 _ _ _ _ _ _ _ _ _ _ _ _)
   | (with_reducible exact ih2 _ _ _ _ _ _ _ _ _ _ _ _)
   | (with_reducible exact ih3 _ _ _ _ _ _ _ _ _ _ _ _ _)
   | (with_reducible exact ih4 _ _ _ _ _ _ _)
   | (with_reducible exact ih5 _ _ _ _ _ _ _ _ _ _ _ _ _ _ _)
   | (with_reducible exact ih6 _ _ _ _ _ _ _ _ _ _ _)
   | (with_reducible exact ih7 _ _ _ _ _ _ _ _ _ _ _)
   | (with_reducible exact ih8 _ _ _ _ _ _ _ _ _ _ _)
   | (with_reducible exact ih9 _ _ _ _ _ _ _ _)
   | (with_reducible exact ih10 _ _ _ _ _ _ _ _)
   | (with_reducible exact ih11 _ _ _ _ _ _ _ _)
   | (with_reducible exact ih12 _ _ _ _ _ _ _)
   | (with_reducible exact ladderbackref07_Result.mono _ _ _)
   | (with_reducible exact ladderbackref11_Fields.mono _ _)
   | (with_reducible exact LeO.refl _)
   | (with_reducible exact LeO.none _)
   | (with_reducible refine LeO.ite ?_ ?_)
   | (with_reducible refine LeO.bind ?_ (fun _ => ?_))
   | exact ih0 _ _ _ _ _ _ _ _ _
   | exact ih1 _ _ _ _ _ _ _ _ _ _ _ _
   | exact ih2 _ _ _ _ _ _ _ _ _ _ _ _
   | exact ih3 _ _ _ _ _ _ _ _ _ _ _ _ _
   | exact ih4 _ _ _ _ _ _ _
   | exact ih5 _ _ _ _ _ _ _ _ _ _ _ _ _ _ _
   | exact ih6 _ _ _ _ _ _ _ _ _ _ _
   | exact ih7 _ _ _ _ _ _ _ _ _ _ _
   | exact ih8 _ _ _ _ _ _ _ _ _ _ _
   | exact ih9 _ _ _ _ _ _ _ _
   | exact ih10 _ _ _ _ _ _ _ _
   | exact ih11 _ _ _ _ _ _ _ _
   | exact ih12 _ _ _ _ _ _ _
   | exact ladderbackref07_Result.mono _ _ _
   | exact ladderbackref11_Fields.mono _ _
   | exact LeO.none _
   | refine LeO.ite ?_ ?_
   | refine LeO.bind ?_ (fun _ => ?_)
theorem ladderbackref26_Type.mono : ∀ a0 a1 a2 a3 a4 a5 a6 a7 a8 k, LeO (ladderbackref26_Type.f k a0 a1 a2 a3 a4 a5 a6 a7 a8) (ladderbackref26_Type.f (k + 1) a0 a1 a2 a3 a4 a5 a6 a7 a8) := by
 intro a0 a1 a2 a3 a4 a5 a6 a7 a8 k
 obtain ⟨ih0, ih1, ih2, ih3, ih4, ih5, ih6, ih7, ih8, ih9, ih10, ih11, ih12⟩ := ladderbackref26_Type.mono_l k
 exact ih0 a0 a1 a2 a3 a4 a5 a6 a7 a8
set_option maxHeartbeats 8000000 in
set_option maxRecDepth 100000 in
theorem ladderbackref26_Type.calls (k : Nat) : ∀ (A0_0 : Option Addr) (c0_0 : Nat) (l0_0 : List (S42)) (A0_1 : Option Addr) (c0_1 : Nat) (l0_1 : List (S44)) (A0_2 : Option Addr) (c0_2 : Nat) (l0_2 : List (S99)) (A0_3 : Option Addr) (c0_3 : Nat) (l0_3 : List Int) (a1_0 : Int) (a1_1 : Int) (a1_2 : Int) (a1_3 : Int) (A1_4 : Option Addr) (c1_4 : Nat) (l1_4 : List (S30)) (r : Int) (w : World) (hr0_0 : Kd.C k42 w A0_0 l0_0.length l0_0) (hc0_0 : l0_0.length ≤ c0_0) (hr0_1 : Kd.C k44 w A0_1 l0_1.length l0_1) (hc0_1 : l0_1.length ≤ c0_1) (hr0_2 : Kd.C k99 w A0_2 l0_2.length l0_2) (hc0_2 : l0_2.length ≤ c0_2) (hr0_3 : Kd.C (Kd.int .i64) w A0_3 l0_3.length l0_3) (hc0_3 : l0_3.length ≤ c0_3) (hr1_4 : Kd.C k30 w A1_4 l1_4.length l1_4) (hc1_4 : l1_4.length ≤ c1_4) (h : ladderbackref26_Type.f k l0_0 l0_1 l0_2 l0_3 a1_0 a1_1 a1_2 a1_3 l1_4 = some r),
  Calls Tryd.prog 16 #[.agg #[.slice A0_0 l0_0.length c0_0, .slice A0_1 l0_1.length c0_1, .slice A0_2 l0_2.length c0_2, .slice A0_3 l0_3.length c0_3], .agg #[.int .i64 a1_0, .int .i64 a1_1, .int .i64 a1_2, .int .i64 a1_3, .slice A1_4 l1_4.length c1_4]] w fun e w' => e = .returned (.int .i64 r) ∧ Below w.heap.size w w' := by
 induction k using Nat.strongRecOn with
 | _ k ih =>
 intro A0_0 c0_0 l0_0 A0_1 c0_1 l0_1 A0_2 c0_2 l0_2 A0_3 c0_3 l0_3 a1_0 a1_1 a1_2 a1_3 A1_4 c1_4 l1_4 r w hr0_0 hc0_0 hr0_1 hc0_1 hr0_2 hc0_2 hr0_3 hc0_3 hr1_4 hc1_4 h
 cases k with
 | zero => exact absurd h (by simp [ladderbackref26_Type.f])
 | succ k =>
 simp only [ladderbackref26_Type.f] at h
 have hu37 := Tryd.underlying37
 have hu30 := Tryd.underlying30
 have HR0_0 := Aside0.mk hr0_0
 have HC0_0 := Aside0.mk hc0_0
 clear hr0_0 hc0_0
 have HR0_1 := Aside0.mk hr0_1
 have HC0_1 := Aside0.mk hc0_1
 clear hr0_1 hc0_1
 have HR0_2 := Aside0.mk hr0_2
 have HC0_2 := Aside0.mk hc0_2
 clear hr0_2 hc0_2
 have HR0_3 := Aside0.mk hr0_3
 have HC0_3 := Aside0.mk hc0_3
 clear hr0_3 hc0_3
 have HR1_4 := Aside0.mk hr1_4
 have HC1_4 := Aside0.mk hc1_4
 clear hr1_4 hc1_4
 have HB := Aside0.mk (Below.refl w.heap.size w)
 have H : (if (l1_4.length : Int) > 0 then (if 0 < (l1_4.length : Int) then ((ladderbackref26_Type.f k l0_0 l0_1 l0_2 l0_3 ((rd_T30 l1_4 0).f0) ((rd_T30 l1_4 0).f1) ((rd_T30 l1_4 0).f2) ((rd_T30 l1_4 0).f3) ((rd_T30 l1_4 0).f4)).bind fun t229 => (ladderbackref26_Type.j0 k (l1_4.length : Int) t229 0 l0_0 l0_1 l0_2 l0_3 a1_0 a1_1 a1_2 a1_3 l1_4)) else (none)) else (ladderbackref26_Type.j0 k (l1_4.length : Int) 0 0 l0_0 l0_1 l0_2 l0_3 a1_0 a1_1 a1_2 a1_3 l1_4)) = some r := h
 clear h
 have HC3 := Aside0.mk H
 clear H
 go_enter Tryd.func16, Tryd.ntmps16
 go_upto_if 16 with (first | ((with_reducible refine gate_dst (N := 2) rfl ?_); (try (refine gate_guard (by rfl) ?_; dsimp only)); refine box_event ?hg (N := 2) ?hd (cs := #[.slice A0_0 l0_0.length c0_0, .slice A0_1 l0_1.length c0_1, .slice A0_2 l0_2.length c0_2, .slice A0_3 l0_3.length c0_3]) (t := 37) ?hr ?_; (case hd => rfl); (case hg => rfl); (case hr => first | (go_simp; done) | (go_simp; rfl)); intro gb226 hg w4 hbox hb; have n0_ := Aside0.mk (below_step (by repeat (first | (with_reducible first | exact HB.out | apply below_alloc | apply pw_below_drewN | apply below_drew1) | exact HB.out)) hb); have n1_ := Aside0.mk (hbox); have n2_ := Aside0.mk ((by rw [hg]; exact (below_size (by repeat (first | (with_reducible first | exact HB.out | apply below_alloc | apply pw_below_drewN | apply below_drew1) | exact HB.out))) : w.heap.size ≤ gb226)); have n3_ := Aside0.mk ((by rw [hg]; exact (below_size (by repeat (first | (with_reducible first | exact HB.out | apply below_alloc | apply pw_below_drewN | apply below_drew1) | exact HB.out))) : w.heap.size ≤ gb226)); clear HB; have HB := n0_; have BK226 := n1_; have GW226 := n2_; have GE226 := n3_; clear n0_ n1_ n2_ n3_; clear hb hbox hg) | ((with_reducible refine gate_dst (N := 3) rfl ?_); (try (refine gate_guard (by rfl) ?_; dsimp only)); refine box_event ?hg (N := 3) ?hd (cs := #[.int .i64 a1_0, .int .i64 a1_1, .int .i64 a1_2, .int .i64 a1_3, .slice A1_4 l1_4.length c1_4]) (t := 30) ?hr ?_; (case hd => rfl); (case hg => rfl); (case hr => first | (go_simp; done) | (go_simp; rfl)); intro gb227 hg w5 hbox hb; have n0_ := Aside0.mk (blk_below (g := gb226) (o := .cells #[.slice A0_0 l0_0.length c0_0, .slice A0_1 l0_1.length c0_1, .slice A0_2 l0_2.length c0_2, .slice A0_3 l0_3.length c0_3] 37 (0, 0)) (by (with_reducible repeat (first | refine blk_drewN ?_ _ | refine blk_drew ?_ | refine blk_alloc ?_ _)); exact BK226.out) hb); have n1_ := Aside0.mk (below_step (by repeat (first | (with_reducible first | exact HB.out | apply below_alloc | apply pw_below_drewN | apply below_drew1 | refine below_set ?_ GE226.out) | exact HB.out)) hb); have n2_ := Aside0.mk (hbox); have n3_ := Aside0.mk ((by rw [hg]; exact (below_size (by repeat (first | (with_reducible first | exact HB.out | apply below_alloc | apply pw_below_drewN | apply below_drew1 | refine below_set ?_ GE226.out) | exact HB.out))) : w.heap.size ≤ gb227)); have n4_ := Aside0.mk ((by rw [hg]; exact (below_size (by repeat (first | (with_reducible first | exact HB.out | apply below_alloc | apply pw_below_drewN | apply below_drew1 | refine below_set ?_ GE226.out) | exact HB.out))) : w.heap.size ≤ gb227)); have n5_ := Aside0.mk ((by rw [hg]; exact Nat.ne_of_lt (blk_lt (g := gb226) (o := .cells #[.slice A0_0 l0_0.length c0_0, .slice A0_1 l0_1.length c0_1, .slice A0_2 l0_2.length c0_2, .slice A0_3 l0_3.length c0_3] 37 (0, 0)) (by (with_reducible repeat (first | refine blk_drewN ?_ _ | refine blk_drew ?_ | refine blk_alloc ?_ _)); exact BK226.out)) : gb226 ≠ gb227)); have n6_ := Aside0.mk ((by rw [hg]; exact Nat.ne_of_gt (blk_lt (g := gb226) (o := .cells #[.slice A0_0 l0_0.length c0_0, .slice A0_1 l0_1.length c0_1, .slice A0_2 l0_2.length c0_2, .slice A0_3 l0_3.length c0_3] 37 (0, 0)) (by (with_reducible repeat (first | refine blk_drewN ?_ _ | refine blk_drew ?_ | refine blk_alloc ?_ _)); exact BK226.out)) : gb227 ≠ gb226)); clear BK226; clear HB; have BK226 := n0_; have HB := n1_; have BK227 := n2_; have GW227 := n3_; have GE227 := n4_; have NB226_227 := n5_; have NB227_226 := n6_; clear n0_ n1_ n2_ n3_ n4_ n5_ n6_; clear hb hbox hg; have hnb6 := NB227_226.out; have hnc6 := NB226_227.out; have hcz7_0 : w5.cell? ⟨gb227, 0, none⟩ = some (.int .i64 a1_0) := (blk_cell BK227.out 0).trans rfl; have hcz7_1 : w5.cell? ⟨gb227, 1, none⟩ = some (.int .i64 a1_1) := (blk_cell BK227.out 1).trans rfl; have hcz7_2 : w5.cell? ⟨gb227, 2, none⟩ = some (.int .i64 a1_2) := (blk_cell BK227.out 2).trans rfl; have hcz7_3 : w5.cell? ⟨gb227, 3, none⟩ = some (.int .i64 a1_3) := (blk_cell BK227.out 3).trans rfl; have hcz7_4 : w5.cell? ⟨gb227, 4, none⟩ = some (.slice A1_4 l1_4.length c1_4) := (blk_cell BK227.out 4).trans rfl; have hfz7_0 := blk_frozen BK227.out 0; have hfz7_1 := blk_frozen BK227.out 1; have hfz7_2 := blk_frozen BK227.out 2; have hfz7_3 := blk_frozen BK227.out 3; have hfz7_4 := blk_frozen BK227.out 4))
 repeat (go_quiet (first | ((with_reducible refine gate_dst (N := 2) rfl ?_); (try (refine gate_guard (by rfl) ?_; dsimp only)); refine box_event ?hg (N := 2) ?hd (cs := #[.slice A0_0 l0_0.length c0_0, .slice A0_1 l0_1.length c0_1, .slice A0_2 l0_2.length c0_2, .slice A0_3 l0_3.length c0_3]) (t := 37) ?hr ?_; (case hd => rfl); (case hg => rfl); (case hr => first | (go_simp; done) | (go_simp; rfl)); intro gb226 hg w4 hbox hb; have n0_ := Aside0.mk (below_step (by repeat (first | (with_reducible first | exact HB.out | apply below_alloc | apply pw_below_drewN | apply below_drew1) | exact HB.out)) hb); have n1_ := Aside0.mk (hbox); have n2_ := Aside0.mk ((by rw [hg]; exact (below_size (by repeat (first | (with_reducible first | exact HB.out | apply below_alloc | apply pw_below_drewN | apply below_drew1) | exact HB.out))) : w.heap.size ≤ gb226)); have n3_ := Aside0.mk ((by rw [hg]; exact (below_size (by repeat (first | (with_reducible first | exact HB.out | apply below_alloc | apply pw_below_drewN | apply below_drew1) | exact HB.out))) : w.heap.size ≤ gb226)); clear HB; have HB := n0_; have BK226 := n1_; have GW226 := n2_; have GE226 := n3_; clear n0_ n1_ n2_ n3_; clear hb hbox hg) | ((with_reducible refine gate_dst (N := 3) rfl ?_); (try (refine gate_guard (by rfl) ?_; dsimp only)); refine box_event ?hg (N := 3) ?hd (cs := #[.int .i64 a1_0, .int .i64 a1_1, .int .i64 a1_2, .int .i64 a1_3, .slice A1_4 l1_4.length c1_4]) (t := 30) ?hr ?_; (case hd => rfl); (case hg => rfl); (case hr => first | (go_simp; done) | (go_simp; rfl)); intro gb227 hg w5 hbox hb; have n0_ := Aside0.mk (blk_below (g := gb226) (o := .cells #[.slice A0_0 l0_0.length c0_0, .slice A0_1 l0_1.length c0_1, .slice A0_2 l0_2.length c0_2, .slice A0_3 l0_3.length c0_3] 37 (0, 0)) (by (with_reducible repeat (first | refine blk_drewN ?_ _ | refine blk_drew ?_ | refine blk_alloc ?_ _)); exact BK226.out) hb); have n1_ := Aside0.mk (below_step (by repeat (first | (with_reducible first | exact HB.out | apply below_alloc | apply pw_below_drewN | apply below_drew1 | refine below_set ?_ GE226.out) | exact HB.out)) hb); have n2_ := Aside0.mk (hbox); have n3_ := Aside0.mk ((by rw [hg]; exact (below_size (by repeat (first | (with_reducible first | exact HB.out | apply below_alloc | apply pw_below_drewN | apply below_drew1 | refine below_set ?_ GE226.out) | exact HB.out))) : w.heap.size ≤ gb227)); have n4_ := Aside0.mk ((by rw [hg]; exact (below_size (by repeat (first | (with_reducible first | exact HB.out | apply below_alloc | apply pw_below_drewN | apply below_drew1 | refine below_set ?_ GE226.out) | exact HB.out))) : w.heap.size ≤ gb227)); have n5_ := Aside0.mk ((by rw [hg]; exact Nat.ne_of_lt (blk_lt (g := gb226) (o := .cells #[.slice A0_0 l0_0.length c0_0, .slice A0_1 l0_1.length c0_1, .slice A0_2 l0_2.length c0_2, .slice A0_3 l0_3.length c0_3] 37 (0, 0)) (by (with_reducible repeat (first | refine blk_drewN ?_ _ | refine blk_drew ?_ | refine blk_alloc ?_ _)); exact BK226.out)) : gb226 ≠ gb227)); have n6_ := Aside0.mk ((by rw [hg]; exact Nat.ne_of_gt (blk_lt (g := gb226) (o := .cells #[.slice A0_0 l0_0.length c0_0, .slice A0_1 l0_1.length c0_1, .slice A0_2 l0_2.length c0_2, .slice A0_3 l0_3.length c0_3] 37 (0, 0)) (by (with_reducible repeat (first | refine blk_drewN ?_ _ | refine blk_drew ?_ | refine blk_alloc ?_ _)); exact BK226.out)) : gb227 ≠ gb226)); clear BK226; clear HB; have BK226 := n0_; have HB := n1_; have BK227 := n2_; have GW227 := n3_; have GE227 := n4_; have NB226_227 := n5_; have NB227_226 := n6_; clear n0_ n1_ n2_ n3_ n4_ n5_ n6_; clear hb hbox hg; have hnb6 := NB227_226.out; have hnc6 := NB226_227.out; have hcz7_0 : w5.cell? ⟨gb227, 0, none⟩ = some (.int .i64 a1_0) := (blk_cell BK227.out 0).trans rfl; have hcz7_1 : w5.cell? ⟨gb227, 1, none⟩ = some (.int .i64 a1_1) := (blk_cell BK227.out 1).trans rfl; have hcz7_2 : w5.cell? ⟨gb227, 2, none⟩ = some (.int .i64 a1_2) := (blk_cell BK227.out 2).trans rfl; have hcz7_3 : w5.cell? ⟨gb227, 3, none⟩ = some (.int .i64 a1_3) := (blk_cell BK227.out 3).trans rfl; have hcz7_4 : w5.cell? ⟨gb227, 4, none⟩ = some (.slice A1_4 l1_4.length c1_4) := (blk_cell BK227.out 4).trans rfl; have hfz7_0 := blk_frozen BK227.out 0; have hfz7_1 := blk_frozen BK227.out 1; have hfz7_2 := blk_frozen BK227.out 2; have hfz7_3 := blk_frozen BK227.out 3; have hfz7_4 := blk_frozen BK227.out 4)); go_upto_if 16 with (first | ((with_reducible refine gate_dst (N := 2) rfl ?_); (try (refine gate_guard (by rfl) ?_; dsimp only)); refine box_event ?hg (N := 2) ?hd (cs := #[.slice A0_0 l0_0.length c0_0, .slice A0_1 l0_1.length c0_1, .slice A0_2 l0_2.length c0_2, .slice A0_3 l0_3.length c0_3]) (t := 37) ?hr ?_; (case hd => rfl); (case hg => rfl); (case hr => first | (go_simp; done) | (go_simp; rfl)); intro gb226 hg w4 hbox hb; have n0_ := Aside0.mk (below_step (by repeat (first | (with_reducible first | exact HB.out | apply below_alloc | apply pw_below_drewN | apply below_drew1) | exact HB.out)) hb); have n1_ := Aside0.mk (hbox); have n2_ := Aside0.mk ((by rw [hg]; exact (below_size (by repeat (first | (with_reducible first | exact HB.out | apply below_alloc | apply pw_below_drewN | apply below_drew1) | exact HB.out))) : w.heap.size ≤ gb226)); have n3_ := Aside0.mk ((by rw [hg]; exact (below_size (by repeat (first | (with_reducible first | exact HB.out | apply below_alloc | apply pw_below_drewN | apply below_drew1) | exact HB.out))) : w.heap.size ≤ gb226)); clear HB; have HB := n0_; have BK226 := n1_; have GW226 := n2_; have GE226 := n3_; clear n0_ n1_ n2_ n3_; clear hb hbox hg) | ((with_reducible refine gate_dst (N := 3) rfl ?_); (try (refine gate_guard (by rfl) ?_; dsimp only)); refine box_event ?hg (N := 3) ?hd (cs := #[.int .i64 a1_0, .int .i64 a1_1, .int .i64 a1_2, .int .i64 a1_3, .slice A1_4 l1_4.length c1_4]) (t := 30) ?hr ?_; (case hd => rfl); (case hg => rfl); (case hr => first | (go_simp; done) | (go_simp; rfl)); intro gb227 hg w5 hbox hb; have n0_ := Aside0.mk (blk_below (g := gb226) (o := .cells #[.slice A0_0 l0_0.length c0_0, .slice A0_1 l0_1.length c0_1, .slice A0_2 l0_2.length c0_2, .slice A0_3 l0_3.length c0_3] 37 (0, 0)) (by (with_reducible repeat (first | refine blk_drewN ?_ _ | refine blk_drew ?_ | refine blk_alloc ?_ _)); exact BK226.out) hb); have n1_ := Aside0.mk (below_step (by repeat (first | (with_reducible first | exact HB.out | apply below_alloc | apply pw_below_drewN | apply below_drew1 | refine below_set ?_ GE226.out) | exact HB.out)) hb); have n2_ := Aside0.mk (hbox); have n3_ := Aside0.mk ((by rw [hg]; exact (below_size (by repeat (first | (with_reducible first | exact HB.out | apply below_alloc | apply pw_below_drewN | apply below_drew1 | refine below_set ?_ GE226.out) | exact HB.out))) : w.heap.size ≤ gb227)); have n4_ := Aside0.mk ((by rw [hg]; exact (below_size (by repeat (first | (with_reducible first | exact HB.out | apply below_alloc | apply pw_below_drewN | apply below_drew1 | refine below_set ?_ GE226.out) | exact HB.out))) : w.heap.size ≤ gb227)); have n5_ := Aside0.mk ((by rw [hg]; exact Nat.ne_of_lt (blk_lt (g := gb226) (o := .cells #[.slice A0_0 l0_0.length c0_0, .slice A0_1 l0_1.length c0_1, .slice A0_2 l0_2.length c0_2, .slice A0_3 l0_3.length c0_3] 37 (0, 0)) (by (with_reducible repeat (first | refine blk_drewN ?_ _ | refine blk_drew ?_ | refine blk_alloc ?_ _)); exact BK226.out)) : gb226 ≠ gb227)); have n6_ := Aside0.mk ((by rw [hg]; exact Nat.ne_of_gt (blk_lt (g := gb226) (o := .cells #[.slice A0_0 l0_0.length c0_0, .slice A0_1 l0_1.length c0_1, .slice A0_2 l0_2.length c0_2, .slice A0_3 l0_3.length c0_3] 37 (0, 0)) (by (with_reducible repeat (first | refine blk_drewN ?_ _ | refine blk_drew ?_ | refine blk_alloc ?_ _)); exact BK226.out)) : gb227 ≠ gb226)); clear BK226; clear HB; have BK226 := n0_; have HB := n1_; have BK227 := n2_; have GW227 := n3_; have GE227 := n4_; have NB226_227 := n5_; have NB227_226 := n6_; clear n0_ n1_ n2_ n3_ n4_ n5_ n6_; clear hb hbox hg; have hnb6 := NB227_226.out; have hnc6 := NB226_227.out; have hcz7_0 : w5.cell? ⟨gb227, 0, none⟩ = some (.int .i64 a1_0) := (blk_cell BK227.out 0).trans rfl; have hcz7_1 : w5.cell? ⟨gb227, 1, none⟩ = some (.int .i64 a1_1) := (blk_cell BK227.out 1).trans rfl; have hcz7_2 : w5.cell? ⟨gb227, 2, none⟩ = some (.int .i64 a1_2) := (blk_cell BK227.out 2).trans rfl; have hcz7_3 : w5.cell? ⟨gb227, 3, none⟩ = some (.int .i64 a1_3) := (blk_cell BK227.out 3).trans rfl; have hcz7_4 : w5.cell? ⟨gb227, 4, none⟩ = some (.slice A1_4 l1_4.length c1_4) := (blk_cell BK227.out 4).trans rfl; have hfz7_0 := blk_frozen BK227.out 0; have hfz7_1 := blk_frozen BK227.out 1; have hfz7_2 := blk_frozen BK227.out 2; have hfz7_3 := blk_frozen BK227.out 3; have hfz7_4 := blk_frozen BK227.out 4)))
 (try simp only [Act.put, List.setIfInBounds_toArray, List.set_cons_zero, List.set_cons_succ])
 go_cut [6] from 12 to 22 (fun v6 wc => ∃ (kq : Nat) (x6_2 : Int), v6 = .int .i64 x6_2 ∧ Aside0 (ladderbackref26_Type.j0 kq (l1_4.length : Int) x6_2 0 l0_0 l0_1 l0_2 l0_3 a1_0 a1_1 a1_2 a1_3 l1_4 = some r) ∧ Aside0 (kq ≤ k) ∧ Aside0 (wc.heap[gb226]? = some (.cells #[(.slice A0_0 l0_0.length c0_0), (.slice A0_1 l0_1.length c0_1), (.slice A0_2 l0_2.length c0_2), (.slice A0_3 l0_3.length c0_3)] 37 (0, 0))) ∧ Aside0 (wc.heap[gb227]? = some (.cells #[.int .i64 a1_0, .int .i64 a1_1, .int .i64 a1_2, .int .i64 a1_3, (.slice A1_4 l1_4.length c1_4)] 30 (0, 0))) ∧ Aside0 (Below w.heap.size w wc))
 case first =>
  have H := HC3.out
  clear HC3
  by_cases c8 : (l1_4.length : Int) > 0
  ·
   rw [if_pos c8] at H
   have c8b0 : decide (0 < (l1_4.length : Int)) = true := decide_eq_true c8
   have c8b1 : decide (0 < l1_4.length) = true := decide_eq_true (by omega)
   clear c8
   (first | rw [c8b0] | (simp only [i64_w, i32_w]; rw [c8b0]) | rw [c8b1] | skip)
   by_cases c9 : 0 < (l1_4.length : Int)
   ·
    rw [if_pos c9] at H
    have c9b0 : decide (0 < (l1_4.length : Int)) = true := decide_eq_true c9
    have c9b1 : decide (0 < l1_4.length) = true := decide_eq_true (by omega)
    clear c9
    replace H := Option.bind_eq_some_iff.mp H
    obtain ⟨t229, A100, H⟩ := H
    replace H : (ladderbackref26_Type.j0 k (l1_4.length : Int) t229 0 l0_0 l0_1 l0_2 l0_3 a1_0 a1_1 a1_2 a1_3 l1_4) = some r := H
    have A10 := Aside0.mk A100
    clear A100
    have H' := Aside0.mk H
    clear H
    try go_wp2
    repeat (go_quiet (fail); try go_wp2)
    have n0_ := Aside0.mk (blk_drew BK226.out)
    have n1_ := Aside0.mk (blk_drew BK227.out)
    have n2_ := Aside0.mk (below_drew1 HB.out)
    clear BK226
    clear BK227
    clear HB
    have BK226 := n0_
    have BK227 := n1_
    have HB := n2_
    clear n0_ n1_ n2_
    have p228 : 0 ≤ (0 : Int) := (by omega)
    have q228 : 0 < (l1_4.length : Int) := of_decide_eq_true (by first | (with_reducible assumption) | assumption)
    obtain ⟨ad228, A228_4, c228_4, e228, hx228_0, hx228_1, hx228_2, hx228_3, hx228_4, hl228_4, hi228_4⟩ := at_T30 HR1_4.out 0 p228 q228
    have hw228_4 := hx228_4
    (try rw [show ((0 : Int)).toNat = 0 from rfl] at hw228_4)
    (try rw [show 0 * 5 = 0 from rfl] at hw228_4)
    (try rw [Addr.add_zero'] at hw228_4)
    have hw228_3 := hx228_3
    (try rw [show ((0 : Int)).toNat = 0 from rfl] at hw228_3)
    (try rw [show 0 * 5 = 0 from rfl] at hw228_3)
    (try rw [Addr.add_zero'] at hw228_3)
    have hw228_2 := hx228_2
    (try rw [show ((0 : Int)).toNat = 0 from rfl] at hw228_2)
    (try rw [show 0 * 5 = 0 from rfl] at hw228_2)
    (try rw [Addr.add_zero'] at hw228_2)
    have hw228_1 := hx228_1
    (try rw [show ((0 : Int)).toNat = 0 from rfl] at hw228_1)
    (try rw [show 0 * 5 = 0 from rfl] at hw228_1)
    (try rw [Addr.add_zero'] at hw228_1)
    have hw228_0 := hx228_0
    (try rw [show ((0 : Int)).toNat = 0 from rfl] at hw228_0)
    (try rw [show 0 * 5 = 0 from rfl] at hw228_0)
    (try rw [Addr.add_zero'] at hw228_0)
    cases e228
    have qi228 : (0 < l1_4.length) = True := eq_true (by omega)
    (try rw [show ((0 : Int)).toNat = 0 from rfl] at hx228_0)
    (try rw [show 0 * 5 = 0 from rfl] at hx228_0)
    (try rw [Addr.add_zero'] at hx228_0)
    (try rw [show ((0 : Int)).toNat = 0 from rfl] at hx228_1)
    (try rw [show 0 * 5 = 0 from rfl] at hx228_1)
    (try rw [Addr.add_zero'] at hx228_1)
    (try rw [show ((0 : Int)).toNat = 0 from rfl] at hx228_2)
    (try rw [show 0 * 5 = 0 from rfl] at hx228_2)
    (try rw [Addr.add_zero'] at hx228_2)
    (try rw [show ((0 : Int)).toNat = 0 from rfl] at hx228_3)
    (try rw [show 0 * 5 = 0 from rfl] at hx228_3)
    (try rw [Addr.add_zero'] at hx228_3)
    (try rw [show ((0 : Int)).toNat = 0 from rfl] at hx228_4)
    (try rw [show 0 * 5 = 0 from rfl] at hx228_4)
    (try rw [Addr.add_zero'] at hx228_4)
    replace hx228_0 := (HB.out.cell (World.block_lt_of_cell? w _ hx228_0)).trans hx228_0
    replace hx228_1 := (HB.out.cell (World.block_lt_of_cell? w _ hx228_1)).trans hx228_1
    replace hx228_2 := (HB.out.cell (World.block_lt_of_cell? w _ hx228_2)).trans hx228_2
    replace hx228_3 := (HB.out.cell (World.block_lt_of_cell? w _ hx228_3)).trans hx228_3
    replace hx228_4 := (HB.out.cell (World.block_lt_of_cell? w _ hx228_4)).trans hx228_4
    have HR228_4 := Aside0.mk hi228_4
    have HC228_4 := Aside0.mk hl228_4
    clear hi228_4 hl228_4
    replace p228 := eq_true p228
    replace q228 := eq_true q228
    refine start_ (n := 7) (S := fun w' => w'.cell? ⟨gb226, 0, none⟩ = some (.slice A0_0 l0_0.length c0_0) ∧ w'.cell? ⟨gb226, 1, none⟩ = some (.slice A0_1 l0_1.length c0_1) ∧ w'.cell? ⟨gb226, 2, none⟩ = some (.slice A0_2 l0_2.length c0_2) ∧ w'.cell? ⟨gb226, 3, none⟩ = some (.slice A0_3 l0_3.length c0_3) ∧ w'.cell? ⟨gb227, 0, none⟩ = some (.int .i64 a1_0) ∧ w'.cell? ⟨gb227, 1, none⟩ = some (.int .i64 a1_1) ∧ w'.cell? ⟨gb227, 2, none⟩ = some (.int .i64 a1_2) ∧ w'.cell? ⟨gb227, 3, none⟩ = some (.int .i64 a1_3) ∧ w'.cell? ⟨gb227, 4, none⟩ = some (.slice (some ad228) l1_4.length c1_4) ∧ w'.cell? ad228 = some (.int .i64 ((rd_T30 l1_4 0).f0)) ∧ w'.cell? ⟨ad228.block, ad228.off + 1, none⟩ = some (.int .i64 ((rd_T30 l1_4 0).f1)) ∧ w'.cell? ⟨ad228.block, ad228.off + 2, none⟩ = some (.int .i64 ((rd_T30 l1_4 0).f2)) ∧ w'.cell? ⟨ad228.block, ad228.off + 3, none⟩ = some (.int .i64 ((rd_T30 l1_4 0).f3)) ∧ w'.cell? ⟨ad228.block, ad228.off + 4, none⟩ = some (.slice A228_4 ((rd_T30 l1_4 0).f4).length c228_4)) (ds := []) #[Ff,Ff,Ff,Ff,Ff,Ff,Ff] (by kernel_rfl) rfl rfl ⟨(blk_cell BK226.out 0).trans rfl, (blk_cell BK226.out 1).trans rfl, (blk_cell BK226.out 2).trans rfl, (blk_cell BK226.out 3).trans rfl, (blk_cell BK227.out 0).trans rfl, (blk_cell BK227.out 1).trans rfl, (blk_cell BK227.out 2).trans rfl, (blk_cell BK227.out 3).trans rfl, (blk_cell BK227.out 4).trans rfl, ((HB.out.cell (World.block_lt_of_cell? w _ hw228_0)).trans hw228_0), ((HB.out.cell (World.block_lt_of_cell? w _ hw228_1)).trans hw228_1), ((HB.out.cell (World.block_lt_of_cell? w _ hw228_2)).trans hw228_2), ((HB.out.cell (World.block_lt_of_cell? w _ hw228_3)).trans hw228_3), ((HB.out.cell (World.block_lt_of_cell? w _ hw228_4)).trans hw228_4)⟩ (fun hHeld => ?_)
    generalize w5.drew = w11 at BK226 BK227 HB HR228_4 hx228_0 hx228_1 hx228_2 hx228_3 hx228_4 hHeld ⊢
    refine pure_ (i := 1) (N := some 18) (v := ?_) (a' := ?_) #[Ff,Tt,Ff,Ff,Ff,Ff,Ff] rfl rfl (by kernel_rfl) (fun _ _ _ h => h) (Or.inl ⟨by rfl, ?_⟩) ?_ ?_
    rotate_left
    ·
     intro w'
     go_simp
     with_reducible rfl
    rotate_left
    ·
     simp only [Act.put, List.setIfInBounds_toArray, List.set_cons_zero, List.set_cons_succ, i64_w, i32_w]
     rfl
    refine take_ (i := 0) (N := some 17) (v := ?_) (a' := ?_) #[Tt,Tt,Ff,Ff,Ff,Ff,Ff] rfl rfl (by kernel_rfl) (fun _ _ _ h => h) (Or.inl ⟨by rfl, ?_⟩) hHeld ?_ ?_
    rotate_left
    ·
     rintro w' ⟨s0, s1, s2, s3, s4, s5, s6, s7, s8, s9, s10, s11, s12, s13⟩
     go_simp
     with_reducible rfl
    rotate_left
    ·
     simp only [Act.put, List.setIfInBounds_toArray, List.set_cons_zero, List.set_cons_succ, i64_w, i32_w]
     rfl
    refine take_ (i := 2) (N := some 19) (v := ?_) (a' := ?_) #[Tt,Tt,Tt,Ff,Ff,Ff,Ff] rfl rfl (by kernel_rfl) (fun _ _ _ h => h) (Or.inl ⟨by rfl, ?_⟩) hHeld ?_ ?_
    rotate_left
    ·
     rintro w' ⟨s0, s1, s2, s3, s4, s5, s6, s7, s8, s9, s10, s11, s12, s13⟩
     go_simp
     with_reducible rfl
    rotate_left
    ·
     simp only [Act.put, List.setIfInBounds_toArray, List.set_cons_zero, List.set_cons_succ, i64_w, i32_w]
     rfl
    refine pure_ (i := 3) (N := some 20) (v := ?_) (a' := ?_) #[Tt,Tt,Tt,Tt,Ff,Ff,Ff] rfl rfl (by kernel_rfl) (fun _ _ _ h => h) (Or.inl ⟨by rfl, ?_⟩) ?_ ?_
    rotate_left
    ·
     intro w'
     go_simp
     with_reducible rfl
    rotate_left
    ·
     simp only [Act.put, List.setIfInBounds_toArray, List.set_cons_zero, List.set_cons_succ, i64_w, i32_w]
     rfl
    refine take_ (i := 4) (N := some 21) (v := ?_) (a' := ?_) #[Tt,Tt,Tt,Tt,Tt,Ff,Ff] rfl rfl (by kernel_rfl) (fun _ _ _ h => h) (Or.inl ⟨by rfl, ?_⟩) hHeld ?_ ?_
    rotate_left
    ·
     rintro w' ⟨s0, s1, s2, s3, s4, s5, s6, s7, s8, s9, s10, s11, s12, s13⟩
     go_simp
     with_reducible rfl
    rotate_left
    ·
     simp only [Act.put, List.setIfInBounds_toArray, List.set_cons_zero, List.set_cons_succ, i64_w, i32_w]
     rfl
    refine one_ (i := 5) (N := some 22) #[Tt,Tt,Tt,Tt,Tt,Tt,Ff] rfl rfl (by kernel_rfl) (by decide) (fun K hK => ?_)
    refine goes_ Tryd.func16 (by kernel_rfl) rfl #[.agg #[.slice A0_0 l0_0.length c0_0, .slice A0_1 l0_1.length c0_1, .slice A0_2 l0_2.length c0_2, .slice A0_3 l0_3.length c0_3], .agg #[.int .i64 ((rd_T30 l1_4 0).f0), .int .i64 ((rd_T30 l1_4 0).f1), .int .i64 ((rd_T30 l1_4 0).f2), .int .i64 ((rd_T30 l1_4 0).f3), .slice A228_4 ((rd_T30 l1_4 0).f4).length c228_4]] (by rfl) rfl rfl (by (try simp only [List.map_toArray, List.map_cons, List.map_nil]); first | done | rfl | (simp only [List.length_drop, List.length_take]; rfl)) ?_
    with_reducible refine (ih k (by omega) _ _ l0_0 _ _ l0_1 _ _ l0_2 _ _ l0_3 ((rd_T30 l1_4 0).f0) ((rd_T30 l1_4 0).f1) ((rd_T30 l1_4 0).f2) ((rd_T30 l1_4 0).f3) _ _ ((rd_T30 l1_4 0).f4) t229 _ ?side1 ?side2 ?side3 ?side4 ?side5 ?side6 ?side7 ?side8 ?side9 ?side10 A10.out).mono ?_
    (case side1 => repeat (first | exact (Kd.C_below HR0_0.out HB.out) | (with_reducible refine Kd.C_alloc ?_ _) | (with_reducible refine Kd.C_drewN ?_ _) | (with_reducible refine Kd.C_drew ?_)))
    (case side2 => exact HC0_0.out)
    (case side3 => repeat (first | exact (Kd.C_below HR0_1.out HB.out) | (with_reducible refine Kd.C_alloc ?_ _) | (with_reducible refine Kd.C_drewN ?_ _) | (with_reducible refine Kd.C_drew ?_)))
    (case side4 => exact HC0_1.out)
    (case side5 => repeat (first | exact (Kd.C_below HR0_2.out HB.out) | (with_reducible refine Kd.C_alloc ?_ _) | (with_reducible refine Kd.C_drewN ?_ _) | (with_reducible refine Kd.C_drew ?_)))
    (case side6 => exact HC0_2.out)
    (case side7 => repeat (first | exact (Kd.C_below HR0_3.out HB.out) | (with_reducible refine Kd.C_alloc ?_ _) | (with_reducible refine Kd.C_drewN ?_ _) | (with_reducible refine Kd.C_drew ?_)))
    (case side8 => exact HC0_3.out)
    (case side9 => repeat (first | exact (Kd.C_below HR228_4.out HB.out) | (with_reducible refine Kd.C_alloc ?_ _) | (with_reducible refine Kd.C_drewN ?_ _) | (with_reducible refine Kd.C_drew ?_)))
    (case side10 => exact HC228_4.out)
    rintro e w12 ⟨rfl, hb⟩
    refine ⟨_, rfl, ?_⟩
    have n0_ := Aside0.mk (blk_below (g := gb226) (o := .cells #[.slice A0_0 l0_0.length c0_0, .slice A0_1 l0_1.length c0_1, .slice A0_2 l0_2.length c0_2, .slice A0_3 l0_3.length c0_3] 37 (0, 0)) (by (with_reducible repeat (first | refine blk_drewN ?_ _ | refine blk_drew ?_ | refine blk_alloc ?_ _)); exact BK226.out) hb)
    have n1_ := Aside0.mk (blk_below (g := gb227) (o := .cells #[.int .i64 a1_0, .int .i64 a1_1, .int .i64 a1_2, .int .i64 a1_3, .slice (some ad228) l1_4.length c1_4] 30 (0, 0)) (by (with_reducible repeat (first | refine blk_drewN ?_ _ | refine blk_drew ?_ | refine blk_alloc ?_ _)); exact BK227.out) hb)
    have n2_ := Aside0.mk (below_step (by repeat (first | (with_reducible first | exact HB.out | apply below_alloc | apply pw_below_drewN | apply below_drew1 | refine below_set ?_ GE226.out | refine below_set ?_ GE227.out) | exact HB.out)) hb)
    clear BK226
    clear BK227
    clear HB
    have BK226 := n0_
    have BK227 := n1_
    have HB := n2_
    clear n0_ n1_ n2_
    (try clear hb)
    (try clear hb2)
    (try clear hk)
    (try clear hi)
    refine hK.out _ _ ⟨(blk_cell BK226.out 0).trans rfl, (blk_cell BK226.out 1).trans rfl, (blk_cell BK226.out 2).trans rfl, (blk_cell BK226.out 3).trans rfl, (blk_cell BK227.out 0).trans rfl, (blk_cell BK227.out 1).trans rfl, (blk_cell BK227.out 2).trans rfl, (blk_cell BK227.out 3).trans rfl, (blk_cell BK227.out 4).trans rfl, ((HB.out.cell (World.block_lt_of_cell? w _ hw228_0)).trans hw228_0), ((HB.out.cell (World.block_lt_of_cell? w _ hw228_1)).trans hw228_1), ((HB.out.cell (World.block_lt_of_cell? w _ hw228_2)).trans hw228_2), ((HB.out.cell (World.block_lt_of_cell? w _ hw228_3)).trans hw228_3), ((HB.out.cell (World.block_lt_of_cell? w _ hw228_4)).trans hw228_4)⟩ (fun hHeld => ?_)
    clear hK K
    refine norm_ (a' := ?_) ?_ ?_
    rotate_left
    ·
     show Act.put _ (some 22) _ = _
     simp only [Act.put, List.setIfInBounds_toArray, List.set_cons_zero, List.set_cons_succ, i64_w, i32_w]
     rfl
    refine pure_ (i := 6) (N := some 6) (v := ?_) (a' := ?_) #[Tt,Tt,Tt,Tt,Tt,Tt,Tt] rfl rfl (by kernel_rfl) (fun _ _ _ h => h) (Or.inl ⟨by rfl, ?_⟩) ?_ ?_
    rotate_left
    ·
     intro w'
     go_simp
     with_reducible rfl
    rotate_left
    ·
     simp only [Act.put, List.setIfInBounds_toArray, List.set_cons_zero, List.set_cons_succ, i64_w, i32_w]
     rfl
    refine done_ (by kernel_rfl) ?_
    try go_wp2
    repeat (go_quiet (fail); try go_wp2)
    go_meet
    case rel => exact ⟨_, (t229), (by first | rfl | (simp; done) | (simp [*]; done)), H', ⟨by first | omega | exact Nat.le_refl _⟩, ⟨by (with_reducible repeat (first | refine blk_drewN ?_ _ | refine blk_drew ?_ | refine blk_alloc ?_ _)); exact BK226.out⟩, ⟨by (with_reducible repeat (first | refine blk_drewN ?_ _ | refine blk_drew ?_ | refine blk_alloc ?_ _)); exact BK227.out⟩, ⟨by repeat (first | (with_reducible first | exact HB.out | apply below_alloc | apply pw_below_drewN | apply below_drew1 | refine below_set ?_ GE226.out | refine below_set ?_ GE227.out) | exact HB.out)⟩⟩
   ·
    rw [if_neg c9] at H
    exact absurd H (by simp)
  ·
   rw [if_neg c8] at H
   have c8b0 : decide (0 < (l1_4.length : Int)) = false := decide_eq_false c8
   have c8b1 : decide (0 < l1_4.length) = false := decide_eq_false (by omega)
   clear c8
   (first | rw [c8b0] | (simp only [i64_w, i32_w]; rw [c8b0]) | rw [c8b1] | skip)
   have H' := Aside0.mk H
   clear H
   try go_wp2
   repeat (go_quiet (fail); try go_wp2)
   go_meet
   case rel => exact ⟨_, (0), (by first | rfl | (simp; done) | (simp [*]; done)), H', ⟨by first | omega | exact Nat.le_refl _⟩, ⟨by (with_reducible repeat (first | refine blk_drewN ?_ _ | refine blk_drew ?_ | refine blk_alloc ?_ _)); exact BK226.out⟩, ⟨by (with_reducible repeat (first | refine blk_drewN ?_ _ | refine blk_drew ?_ | refine blk_alloc ?_ _)); exact BK227.out⟩, ⟨by repeat (first | (with_reducible first | exact HB.out | apply below_alloc | apply pw_below_drewN | apply below_drew1 | refine below_set ?_ GE226.out | refine below_set ?_ GE227.out) | exact HB.out)⟩⟩
 case rest =>
  clear HC3
  (try clear hcz7_0); (try clear hcz7_1); (try clear hcz7_2); (try clear hcz7_3); (try clear hcz7_4); (try clear hfz7_0); (try clear hfz7_1); (try clear hfz7_2); (try clear hfz7_3); (try clear hfz7_4)
  obtain ⟨kq, x6_2, rfl, HA, HJ2, BK226, BK227, HB⟩ := hcut
  cases kq with
  | zero => exact absurd HA.out (by simp [ladderbackref26_Type.j0])
  | succ kj2 =>
   have H := HA.out
   clear HA
   simp only [ladderbackref26_Type.j0] at H
   have HC13 := Aside0.mk H
   clear H
   go_upto_if 24 with (fail)
   repeat (go_quiet (fail); go_upto_if 24 with (fail))
   go_cut [7] from 23 to 30 (fun v7 wc => ∃ (kq : Nat) (x7_12 : Int), v7 = .int .i64 x7_12 ∧ Aside0 (ladderbackref26_Type.j1 kq (l1_4.length : Int) x6_2 x7_12 l0_0 l0_1 l0_2 l0_3 a1_0 a1_1 a1_2 a1_3 l1_4 = some r) ∧ Aside0 (kq ≤ kj2) ∧ Aside0 (wc.heap[gb226]? = some (.cells #[(.slice A0_0 l0_0.length c0_0), (.slice A0_1 l0_1.length c0_1), (.slice A0_2 l0_2.length c0_2), (.slice A0_3 l0_3.length c0_3)] 37 (0, 0))) ∧ Aside0 (wc.heap[gb227]? = some (.cells #[.int .i64 a1_0, .int .i64 a1_1, .int .i64 a1_2, .int .i64 a1_3, (.slice A1_4 l1_4.length c1_4)] 30 (0, 0))) ∧ Aside0 (Below w.heap.size w wc))
   case first =>
    have H := HC13.out
    clear HC13
    by_cases c14 : (l1_4.length : Int) > 1
    ·
     rw [if_pos c14] at H
     have c14b0 : decide (1 < (l1_4.length : Int)) = true := decide_eq_true c14
     have c14b1 : decide (1 < l1_4.length) = true := decide_eq_true (by omega)
     clear c14
     (first | rw [c14b0] | (simp only [i64_w, i32_w]; rw [c14b0]) | rw [c14b1] | skip)
     by_cases c15 : 1 < (l1_4.length : Int)
     ·
      rw [if_pos c15] at H
      have c15b0 : decide (1 < (l1_4.length : Int)) = true := decide_eq_true c15
      have c15b1 : decide (1 < l1_4.length) = true := decide_eq_true (by omega)
      clear c15
      replace H := Option.bind_eq_some_iff.mp H
      obtain ⟨t231, A160, H⟩ := H
      replace H : (ladderbackref26_Type.j1 kj2 (l1_4.length : Int) x6_2 t231 l0_0 l0_1 l0_2 l0_3 a1_0 a1_1 a1_2 a1_3 l1_4) = some r := H
      have A16 := Aside0.mk A160
      clear A160
      have H' := Aside0.mk H
      clear H
      try go_wp2
      repeat (go_quiet (fail); try go_wp2)
      have n0_ := Aside0.mk (blk_drew BK226.out)
      have n1_ := Aside0.mk (blk_drew BK227.out)
      have n2_ := Aside0.mk (below_drew1 HB.out)
      clear BK226
      clear BK227
      clear HB
      have BK226 := n0_
      have BK227 := n1_
      have HB := n2_
      clear n0_ n1_ n2_
      have p230 : 0 ≤ (1 : Int) := (by omega)
      have q230 : 1 < (l1_4.length : Int) := of_decide_eq_true (by first | (with_reducible assumption) | assumption)
      obtain ⟨ad230, A230_4, c230_4, e230, hx230_0, hx230_1, hx230_2, hx230_3, hx230_4, hl230_4, hi230_4⟩ := at_T30 HR1_4.out 1 p230 q230
      have hw230_4 := hx230_4
      (try rw [show ((1 : Int)).toNat = 1 from rfl] at hw230_4)
      (try rw [show 1 * 5 = 5 from rfl] at hw230_4)
      (try simp only [Nat.reduceMul, Nat.reduceEqDiff, Go.Addr.add, ↓reduceIte] at hw230_4)
      have hw230_3 := hx230_3
      (try rw [show ((1 : Int)).toNat = 1 from rfl] at hw230_3)
      (try rw [show 1 * 5 = 5 from rfl] at hw230_3)
      (try simp only [Nat.reduceMul, Nat.reduceEqDiff, Go.Addr.add, ↓reduceIte] at hw230_3)
      have hw230_2 := hx230_2
      (try rw [show ((1 : Int)).toNat = 1 from rfl] at hw230_2)
      (try rw [show 1 * 5 = 5 from rfl] at hw230_2)
      (try simp only [Nat.reduceMul, Nat.reduceEqDiff, Go.Addr.add, ↓reduceIte] at hw230_2)
      have hw230_1 := hx230_1
      (try rw [show ((1 : Int)).toNat = 1 from rfl] at hw230_1)
      (try rw [show 1 * 5 = 5 from rfl] at hw230_1)
      (try simp only [Nat.reduceMul, Nat.reduceEqDiff, Go.Addr.add, ↓reduceIte] at hw230_1)
      have hw230_0 := hx230_0
      (try rw [show ((1 : Int)).toNat = 1 from rfl] at hw230_0)
      (try rw [show 1 * 5 = 5 from rfl] at hw230_0)
      (try simp only [Nat.reduceMul, Nat.reduceEqDiff, Go.Addr.add, ↓reduceIte] at hw230_0)
      cases e230
      (try simp only [show (1 : Int).toNat = 1 from rfl, Nat.reduceMul, Nat.reduceEqDiff, Go.Addr.add, ↓reduceIte] at hx230_0)
      (try simp only [show (1 : Int).toNat = 1 from rfl, Nat.reduceMul, Nat.reduceEqDiff, Go.Addr.add, ↓reduceIte] at hx230_1)
      (try simp only [show (1 : Int).toNat = 1 from rfl, Nat.reduceMul, Nat.reduceEqDiff, Go.Addr.add, ↓reduceIte] at hx230_2)
      (try simp only [show (1 : Int).toNat = 1 from rfl, Nat.reduceMul, Nat.reduceEqDiff, Go.Addr.add, ↓reduceIte] at hx230_3)
      (try simp only [show (1 : Int).toNat = 1 from rfl, Nat.reduceMul, Nat.reduceEqDiff, Go.Addr.add, ↓reduceIte] at hx230_4)
      have qi230 : (1 < l1_4.length) = True := eq_true (by omega)
      (try rw [show ((1 : Int)).toNat = 1 from rfl] at hx230_0)
      (try rw [show 1 * 5 = 5 from rfl] at hx230_0)
      (try rw [show ((1 : Int)).toNat = 1 from rfl] at hx230_1)
      (try rw [show 1 * 5 = 5 from rfl] at hx230_1)
      (try rw [show ((1 : Int)).toNat = 1 from rfl] at hx230_2)
      (try rw [show 1 * 5 = 5 from rfl] at hx230_2)
      (try rw [show ((1 : Int)).toNat = 1 from rfl] at hx230_3)
      (try rw [show 1 * 5 = 5 from rfl] at hx230_3)
      (try rw [show ((1 : Int)).toNat = 1 from rfl] at hx230_4)
      (try rw [show 1 * 5 = 5 from rfl] at hx230_4)
      replace hx230_0 := (HB.out.cell (World.block_lt_of_cell? w _ hx230_0)).trans hx230_0
      replace hx230_1 := (HB.out.cell (World.block_lt_of_cell? w _ hx230_1)).trans hx230_1
      replace hx230_2 := (HB.out.cell (World.block_lt_of_cell? w _ hx230_2)).trans hx230_2
      replace hx230_3 := (HB.out.cell (World.block_lt_of_cell? w _ hx230_3)).trans hx230_3
      replace hx230_4 := (HB.out.cell (World.block_lt_of_cell? w _ hx230_4)).trans hx230_4
      have HR230_4 := Aside0.mk hi230_4
      have HC230_4 := Aside0.mk hl230_4
      clear hi230_4 hl230_4
      replace p230 := eq_true p230
      replace q230 := eq_true q230
      refine start_ (n := 7) (S := fun w' => w'.cell? ⟨gb226, 0, none⟩ = some (.slice A0_0 l0_0.length c0_0) ∧ w'.cell? ⟨gb226, 1, none⟩ = some (.slice A0_1 l0_1.length c0_1) ∧ w'.cell? ⟨gb226, 2, none⟩ = some (.slice A0_2 l0_2.length c0_2) ∧ w'.cell? ⟨gb226, 3, none⟩ = some (.slice A0_3 l0_3.length c0_3) ∧ w'.cell? ⟨gb227, 0, none⟩ = some (.int .i64 a1_0) ∧ w'.cell? ⟨gb227, 1, none⟩ = some (.int .i64 a1_1) ∧ w'.cell? ⟨gb227, 2, none⟩ = some (.int .i64 a1_2) ∧ w'.cell? ⟨gb227, 3, none⟩ = some (.int .i64 a1_3) ∧ w'.cell? ⟨gb227, 4, none⟩ = some (.slice (some ad230) l1_4.length c1_4) ∧ w'.cell? ⟨ad230.block, ad230.off + 5, none⟩ = some (.int .i64 ((rd_T30 l1_4 1).f0)) ∧ w'.cell? ⟨ad230.block, ad230.off + 5 + 1, none⟩ = some (.int .i64 ((rd_T30 l1_4 1).f1)) ∧ w'.cell? ⟨ad230.block, ad230.off + 5 + 2, none⟩ = some (.int .i64 ((rd_T30 l1_4 1).f2)) ∧ w'.cell? ⟨ad230.block, ad230.off + 5 + 3, none⟩ = some (.int .i64 ((rd_T30 l1_4 1).f3)) ∧ w'.cell? ⟨ad230.block, ad230.off + 5 + 4, none⟩ = some (.slice A230_4 ((rd_T30 l1_4 1).f4).length c230_4)) (ds := []) #[Ff,Ff,Ff,Ff,Ff,Ff,Ff] (by kernel_rfl) rfl rfl ⟨(blk_cell BK226.out 0).trans rfl, (blk_cell BK226.out 1).trans rfl, (blk_cell BK226.out 2).trans rfl, (blk_cell BK226.out 3).trans rfl, (blk_cell BK227.out 0).trans rfl, (blk_cell BK227.out 1).trans rfl, (blk_cell BK227.out 2).trans rfl, (blk_cell BK227.out 3).trans rfl, (blk_cell BK227.out 4).trans rfl, ((HB.out.cell (World.block_lt_of_cell? w _ hw230_0)).trans hw230_0), ((HB.out.cell (World.block_lt_of_cell? w _ hw230_1)).trans hw230_1), ((HB.out.cell (World.block_lt_of_cell? w _ hw230_2)).trans hw230_2), ((HB.out.cell (World.block_lt_of_cell? w _ hw230_3)).trans hw230_3), ((HB.out.cell (World.block_lt_of_cell? w _ hw230_4)).trans hw230_4)⟩ (fun hHeld => ?_)
      generalize wc.drew = w17 at BK226 BK227 HB HR230_4 hx230_0 hx230_1 hx230_2 hx230_3 hx230_4 hHeld ⊢
      refine pure_ (i := 1) (N := some 26) (v := ?_) (a' := ?_) #[Ff,Tt,Ff,Ff,Ff,Ff,Ff] rfl rfl (by kernel_rfl) (fun _ _ _ h => h) (Or.inl ⟨by rfl, ?_⟩) ?_ ?_
      rotate_left
      ·
       intro w'
       go_simp
       with_reducible rfl
      rotate_left
      ·
       simp only [Act.put, List.setIfInBounds_toArray, List.set_cons_zero, List.set_cons_succ, i64_w, i32_w]
       rfl
      refine take_ (i := 0) (N := some 25) (v := ?_) (a' := ?_) #[Tt,Tt,Ff,Ff,Ff,Ff,Ff] rfl rfl (by kernel_rfl) (fun _ _ _ h => h) (Or.inl ⟨by rfl, ?_⟩) hHeld ?_ ?_
      rotate_left
      ·
       rintro w' ⟨s0, s1, s2, s3, s4, s5, s6, s7, s8, s9, s10, s11, s12, s13⟩
       go_simp
       with_reducible rfl
      rotate_left
      ·
       simp only [Act.put, List.setIfInBounds_toArray, List.set_cons_zero, List.set_cons_succ, i64_w, i32_w]
       rfl
      refine take_ (i := 2) (N := some 27) (v := ?_) (a' := ?_) #[Tt,Tt,Tt,Ff,Ff,Ff,Ff] rfl rfl (by kernel_rfl) (fun _ _ _ h => h) (Or.inl ⟨by rfl, ?_⟩) hHeld ?_ ?_
      rotate_left
      ·
       rintro w' ⟨s0, s1, s2, s3, s4, s5, s6, s7, s8, s9, s10, s11, s12, s13⟩
       go_simp
       with_reducible rfl
      rotate_left
      ·
       simp only [Act.put, List.setIfInBounds_toArray, List.set_cons_zero, List.set_cons_succ, i64_w, i32_w]
       rfl
      refine pure_ (i := 3) (N := some 28) (v := ?_) (a' := ?_) #[Tt,Tt,Tt,Tt,Ff,Ff,Ff] rfl rfl (by kernel_rfl) (fun _ _ _ h => h) (Or.inl ⟨by rfl, ?_⟩) ?_ ?_
      rotate_left
      ·
       intro w'
       go_simp
       with_reducible rfl
      rotate_left
      ·
       simp only [Act.put, List.setIfInBounds_toArray, List.set_cons_zero, List.set_cons_succ, i64_w, i32_w]
       rfl
      refine take_ (i := 4) (N := some 29) (v := ?_) (a' := ?_) #[Tt,Tt,Tt,Tt,Tt,Ff,Ff] rfl rfl (by kernel_rfl) (fun _ _ _ h => h) (Or.inl ⟨by rfl, ?_⟩) hHeld ?_ ?_
      rotate_left
      ·
       rintro w' ⟨s0, s1, s2, s3, s4, s5, s6, s7, s8, s9, s10, s11, s12, s13⟩
       go_simp
       with_reducible rfl
      rotate_left
      ·
       simp only [Act.put, List.setIfInBounds_toArray, List.set_cons_zero, List.set_cons_succ, i64_w, i32_w]
       rfl
      refine one_ (i := 5) (N := some 30) #[Tt,Tt,Tt,Tt,Tt,Tt,Ff] rfl rfl (by kernel_rfl) (by decide) (fun K hK => ?_)
      refine goes_ Tryd.func16 (by kernel_rfl) rfl #[.agg #[.slice A0_0 l0_0.length c0_0, .slice A0_1 l0_1.length c0_1, .slice A0_2 l0_2.length c0_2, .slice A0_3 l0_3.length c0_3], .agg #[.int .i64 ((rd_T30 l1_4 1).f0), .int .i64 ((rd_T30 l1_4 1).f1), .int .i64 ((rd_T30 l1_4 1).f2), .int .i64 ((rd_T30 l1_4 1).f3), .slice A230_4 ((rd_T30 l1_4 1).f4).length c230_4]] (by rfl) rfl rfl (by (try simp only [List.map_toArray, List.map_cons, List.map_nil]); first | done | rfl | (simp only [List.length_drop, List.length_take]; rfl)) ?_
      with_reducible refine (ih kj2 (by have := HJ2.out; omega) _ _ l0_0 _ _ l0_1 _ _ l0_2 _ _ l0_3 ((rd_T30 l1_4 1).f0) ((rd_T30 l1_4 1).f1) ((rd_T30 l1_4 1).f2) ((rd_T30 l1_4 1).f3) _ _ ((rd_T30 l1_4 1).f4) t231 _ ?side1 ?side2 ?side3 ?side4 ?side5 ?side6 ?side7 ?side8 ?side9 ?side10 A16.out).mono ?_
      (case side1 => repeat (first | exact (Kd.C_below HR0_0.out HB.out) | (with_reducible refine Kd.C_alloc ?_ _) | (with_reducible refine Kd.C_drewN ?_ _) | (with_reducible refine Kd.C_drew ?_)))
      (case side2 => exact HC0_0.out)
      (case side3 => repeat (first | exact (Kd.C_below HR0_1.out HB.out) | (with_reducible refine Kd.C_alloc ?_ _) | (with_reducible refine Kd.C_drewN ?_ _) | (with_reducible refine Kd.C_drew ?_)))
      (case side4 => exact HC0_1.out)
      (case side5 => repeat (first | exact (Kd.C_below HR0_2.out HB.out) | (with_reducible refine Kd.C_alloc ?_ _) | (with_reducible refine Kd.C_drewN ?_ _) | (with_reducible refine Kd.C_drew ?_)))
      (case side6 => exact HC0_2.out)
      (case side7 => repeat (first | exact (Kd.C_below HR0_3.out HB.out) | (with_reducible refine Kd.C_alloc ?_ _) | (with_reducible refine Kd.C_drewN ?_ _) | (with_reducible refine Kd.C_drew ?_)))
      (case side8 => exact HC0_3.out)
      (case side9 => repeat (first | exact (Kd.C_below HR230_4.out HB.out) | (with_reducible refine Kd.C_alloc ?_ _) | (with_reducible refine Kd.C_drewN ?_ _) | (with_reducible refine Kd.C_drew ?_)))
      (case side10 => exact HC230_4.out)
      rintro e w18 ⟨rfl, hb⟩
      refine ⟨_, rfl, ?_⟩
      have n0_ := Aside0.mk (blk_below (g := gb226) (o := .cells #[.slice A0_0 l0_0.length c0_0, .slice A0_1 l0_1.length c0_1, .slice A0_2 l0_2.length c0_2, .slice A0_3 l0_3.length c0_3] 37 (0, 0)) (by (with_reducible repeat (first | refine blk_drewN ?_ _ | refine blk_drew ?_ | refine blk_alloc ?_ _)); exact BK226.out) hb)
      have n1_ := Aside0.mk (blk_below (g := gb227) (o := .cells #[.int .i64 a1_0, .int .i64 a1_1, .int .i64 a1_2, .int .i64 a1_3, .slice (some ad230) l1_4.length c1_4] 30 (0, 0)) (by (with_reducible repeat (first | refine blk_drewN ?_ _ | refine blk_drew ?_ | refine blk_alloc ?_ _)); exact BK227.out) hb)
      have n2_ := Aside0.mk (below_step (by repeat (first | (with_reducible first | exact HB.out | apply below_alloc | apply pw_below_drewN | apply below_drew1 | refine below_set ?_ GE226.out | refine below_set ?_ GE227.out) | exact HB.out)) hb)
      clear BK226
      clear BK227
      clear HB
      have BK226 := n0_
      have BK227 := n1_
      have HB := n2_
      clear n0_ n1_ n2_
      (try clear hb)
      (try clear hb2)
      (try clear hk)
      (try clear hi)
      refine hK.out _ _ ⟨(blk_cell BK226.out 0).trans rfl, (blk_cell BK226.out 1).trans rfl, (blk_cell BK226.out 2).trans rfl, (blk_cell BK226.out 3).trans rfl, (blk_cell BK227.out 0).trans rfl, (blk_cell BK227.out 1).trans rfl, (blk_cell BK227.out 2).trans rfl, (blk_cell BK227.out 3).trans rfl, (blk_cell BK227.out 4).trans rfl, ((HB.out.cell (World.block_lt_of_cell? w _ hw230_0)).trans hw230_0), ((HB.out.cell (World.block_lt_of_cell? w _ hw230_1)).trans hw230_1), ((HB.out.cell (World.block_lt_of_cell? w _ hw230_2)).trans hw230_2), ((HB.out.cell (World.block_lt_of_cell? w _ hw230_3)).trans hw230_3), ((HB.out.cell (World.block_lt_of_cell? w _ hw230_4)).trans hw230_4)⟩ (fun hHeld => ?_)
      clear hK K
      refine norm_ (a' := ?_) ?_ ?_
      rotate_left
      ·
       show Act.put _ (some 30) _ = _
       simp only [Act.put, List.setIfInBounds_toArray, List.set_cons_zero, List.set_cons_succ, i64_w, i32_w]
       rfl
      refine pure_ (i := 6) (N := some 7) (v := ?_) (a' := ?_) #[Tt,Tt,Tt,Tt,Tt,Tt,Tt] rfl rfl (by kernel_rfl) (fun _ _ _ h => h) (Or.inl ⟨by rfl, ?_⟩) ?_ ?_
      rotate_left
      ·
       intro w'
       go_simp
       with_reducible rfl
      rotate_left
      ·
       simp only [Act.put, List.setIfInBounds_toArray, List.set_cons_zero, List.set_cons_succ, i64_w, i32_w]
       rfl
      refine done_ (by kernel_rfl) ?_
      try go_wp2
      repeat (go_quiet (fail); try go_wp2)
      go_meet
      case rel => exact ⟨_, (t231), (by first | rfl | (simp; done) | (simp [*]; done)), H', ⟨by have := HJ2.out; first | omega | exact Nat.le_refl _⟩, ⟨by (with_reducible repeat (first | refine blk_drewN ?_ _ | refine blk_drew ?_ | refine blk_alloc ?_ _)); exact BK226.out⟩, ⟨by (with_reducible repeat (first | refine blk_drewN ?_ _ | refine blk_drew ?_ | refine blk_alloc ?_ _)); exact BK227.out⟩, ⟨by repeat (first | (with_reducible first | exact HB.out | apply below_alloc | apply pw_below_drewN | apply below_drew1 | refine below_set ?_ GE226.out | refine below_set ?_ GE227.out) | exact HB.out)⟩⟩
     ·
      rw [if_neg c15] at H
      exact absurd H (by simp)
    ·
     rw [if_neg c14] at H
     have c14b0 : decide (1 < (l1_4.length : Int)) = false := decide_eq_false c14
     have c14b1 : decide (1 < l1_4.length) = false := decide_eq_false (by omega)
     clear c14
     (first | rw [c14b0] | (simp only [i64_w, i32_w]; rw [c14b0]) | rw [c14b1] | skip)
     have H' := Aside0.mk H
     clear H
     try go_wp2
     repeat (go_quiet (fail); try go_wp2)
     go_meet
     case rel => exact ⟨_, (0), (by first | rfl | (simp; done) | (simp [*]; done)), H', ⟨by have := HJ2.out; first | omega | exact Nat.le_refl _⟩, ⟨by (with_reducible repeat (first | refine blk_drewN ?_ _ | refine blk_drew ?_ | refine blk_alloc ?_ _)); exact BK226.out⟩, ⟨by (with_reducible repeat (first | refine blk_drewN ?_ _ | refine blk_drew ?_ | refine blk_alloc ?_ _)); exact BK227.out⟩, ⟨by repeat (first | (with_reducible first | exact HB.out | apply below_alloc | apply pw_below_drewN | apply below_drew1 | refine below_set ?_ GE226.out | refine below_set ?_ GE227.out) | exact HB.out)⟩⟩
   case rest =>
    clear HC13
    obtain ⟨kq, x7_12, rfl, HA, HJ12, BK226, BK227, HB⟩ := hcut
    cases kq with
    | zero => exact absurd HA.out (by simp [ladderbackref26_Type.j1])
    | succ kj12 =>
     have H := HA.out
     clear HA
     simp only [ladderbackref26_Type.j1] at H
     have HC19 := Aside0.mk H
     clear H
     go_upto_region 8 with (fail)
     repeat (go_quiet (fail); go_upto_region 8 with (fail))
     go_cut [48] from 31 to 48 (fun v48 wc => ∃ (kq : Nat) (x48_18 : Bool), v48 = .bool x48_18 ∧ Aside0 (ladderbackref26_Type.j2 kq (l1_4.length : Int) x6_2 x7_12 x48_18 l0_0 l0_1 l0_2 l0_3 a1_0 a1_1 a1_2 a1_3 l1_4 = some r) ∧ Aside0 (kq ≤ kj12) ∧ Aside0 (wc.heap[gb226]? = some (.cells #[(.slice A0_0 l0_0.length c0_0), (.slice A0_1 l0_1.length c0_1), (.slice A0_2 l0_2.length c0_2), (.slice A0_3 l0_3.length c0_3)] 37 (0, 0))) ∧ Aside0 (wc.heap[gb227]? = some (.cells #[.int .i64 a1_0, .int .i64 a1_1, .int .i64 a1_2, .int .i64 a1_3, (.slice A1_4 l1_4.length c1_4)] 30 (0, 0))) ∧ Aside0 (Below w.heap.size w wc))
     case first =>
      have H := HC19.out
      clear HC19
      by_cases c20 : (l1_4.length : Int) > 2
      ·
       rw [if_pos c20] at H
       have c20b0 : decide (2 < (l1_4.length : Int)) = true := decide_eq_true c20
       have c20b1 : decide (2 < l1_4.length) = true := decide_eq_true (by omega)
       clear c20
       (first | rw [c20b0] | (simp only [i64_w, i32_w]; rw [c20b0]) | rw [c20b1] | skip)
       have H' := Aside0.mk H
       clear H
       try go_wp2
       repeat (go_quiet (fail); try go_wp2)
       go_meet
       case rel => exact ⟨_, (true), (by first | rfl | (simp; done) | (simp [*]; done)), H', ⟨by have := HJ2.out; have := HJ12.out; first | omega | exact Nat.le_refl _⟩, ⟨by (with_reducible repeat (first | refine blk_drewN ?_ _ | refine blk_drew ?_ | refine blk_alloc ?_ _)); exact BK226.out⟩, ⟨by (with_reducible repeat (first | refine blk_drewN ?_ _ | refine blk_drew ?_ | refine blk_alloc ?_ _)); exact BK227.out⟩, ⟨by repeat (first | (with_reducible first | exact HB.out | apply below_alloc | apply pw_below_drewN | apply below_drew1 | refine below_set ?_ GE226.out | refine below_set ?_ GE227.out) | exact HB.out)⟩⟩
      ·
       rw [if_neg c20] at H
       have c20b0 : decide (2 < (l1_4.length : Int)) = false := decide_eq_false c20
       have c20b1 : decide (2 < l1_4.length) = false := decide_eq_false (by omega)
       clear c20
       (first | rw [c20b0] | (simp only [i64_w, i32_w]; rw [c20b0]) | rw [c20b1] | skip)
       by_cases c21 : (l1_4.length : Int) > 0
       ·
        rw [if_pos c21] at H
        have c21b0 : decide (0 < (l1_4.length : Int)) = true := decide_eq_true c21
        have c21b1 : decide (0 < l1_4.length) = true := decide_eq_true (by omega)
        clear c21
        by_cases c22 : x6_2 = 0
        ·
         rw [if_pos c22] at H
         have c22b0 : (x6_2 == 0) = true := beq_iff_eq.mpr c22
         have c22b1 : (x6_2 != 0) = false := bne_eq_false_iff_eq.mpr c22
         clear c22
         have H' := Aside0.mk H
         clear H
         try go_wp2
         repeat (go_quiet (fail); try go_wp2)
         go_meet
         case rel => exact ⟨_, (true), (by first | rfl | (simp; done) | (simp [*]; done)), H', ⟨by have := HJ2.out; have := HJ12.out; first | omega | exact Nat.le_refl _⟩, ⟨by (with_reducible repeat (first | refine blk_drewN ?_ _ | refine blk_drew ?_ | refine blk_alloc ?_ _)); exact BK226.out⟩, ⟨by (with_reducible repeat (first | refine blk_drewN ?_ _ | refine blk_drew ?_ | refine blk_alloc ?_ _)); exact BK227.out⟩, ⟨by repeat (first | (with_reducible first | exact HB.out | apply below_alloc | apply pw_below_drewN | apply below_drew1 | refine below_set ?_ GE226.out | refine below_set ?_ GE227.out) | exact HB.out)⟩⟩
        ·
         rw [if_neg c22] at H
         have c22b0 : (x6_2 == 0) = false := beq_eq_false_iff_ne.mpr c22
         have c22b1 : (x6_2 != 0) = true := bne_iff_ne.mpr c22
         by_cases c23 : (l1_4.length : Int) > 1
         ·
          rw [if_pos c23] at H
          have c23b0 : decide (1 < (l1_4.length : Int)) = true := decide_eq_true c23
          have c23b1 : decide (1 < l1_4.length) = true := decide_eq_true (by omega)
          clear c23
          have H' := Aside0.mk H
          clear H
          try go_wp2
          repeat (go_quiet (fail); try go_wp2)
          go_meet
          case rel => exact ⟨_, ((x7_12 == 0)), (by first | rfl | (simp; done) | (simp [*]; done)), H', ⟨by have := HJ2.out; have := HJ12.out; first | omega | exact Nat.le_refl _⟩, ⟨by (with_reducible repeat (first | refine blk_drewN ?_ _ | refine blk_drew ?_ | refine blk_alloc ?_ _)); exact BK226.out⟩, ⟨by (with_reducible repeat (first | refine blk_drewN ?_ _ | refine blk_drew ?_ | refine blk_alloc ?_ _)); exact BK227.out⟩, ⟨by repeat (first | (with_reducible first | exact HB.out | apply below_alloc | apply pw_below_drewN | apply below_drew1 | refine below_set ?_ GE226.out | refine below_set ?_ GE227.out) | exact HB.out)⟩⟩
         ·
          rw [if_neg c23] at H
          have c23b0 : decide (1 < (l1_4.length : Int)) = false := decide_eq_false c23
          have c23b1 : decide (1 < l1_4.length) = false := decide_eq_false (by omega)
          clear c23
          have H' := Aside0.mk H
          clear H
          try go_wp2
          repeat (go_quiet (fail); try go_wp2)
          go_meet
          case rel => exact ⟨_, (false), (by first | rfl | (simp; done) | (simp [*]; done)), H', ⟨by have := HJ2.out; have := HJ12.out; first | omega | exact Nat.le_refl _⟩, ⟨by (with_reducible repeat (first | refine blk_drewN ?_ _ | refine blk_drew ?_ | refine blk_alloc ?_ _)); exact BK226.out⟩, ⟨by (with_reducible repeat (first | refine blk_drewN ?_ _ | refine blk_drew ?_ | refine blk_alloc ?_ _)); exact BK227.out⟩, ⟨by repeat (first | (with_reducible first | exact HB.out | apply below_alloc | apply pw_below_drewN | apply below_drew1 | refine below_set ?_ GE226.out | refine below_set ?_ GE227.out) | exact HB.out)⟩⟩
       ·
        rw [if_neg c21] at H
        have c21b0 : decide (0 < (l1_4.length : Int)) = false := decide_eq_false c21
        have c21b1 : decide (0 < l1_4.length) = false := decide_eq_false (by omega)
        clear c21
        by_cases c24 : (l1_4.length : Int) > 1
        ·
         rw [if_pos c24] at H
         have c24b0 : decide (1 < (l1_4.length : Int)) = true := decide_eq_true c24
         have c24b1 : decide (1 < l1_4.length) = true := decide_eq_true (by omega)
         clear c24
         have H' := Aside0.mk H
         clear H
         try go_wp2
         repeat (go_quiet (fail); try go_wp2)
         go_meet
         case rel => exact ⟨_, ((x7_12 == 0)), (by first | rfl | (simp; done) | (simp [*]; done)), H', ⟨by have := HJ2.out; have := HJ12.out; first | omega | exact Nat.le_refl _⟩, ⟨by (with_reducible repeat (first | refine blk_drewN ?_ _ | refine blk_drew ?_ | refine blk_alloc ?_ _)); exact BK226.out⟩, ⟨by (with_reducible repeat (first | refine blk_drewN ?_ _ | refine blk_drew ?_ | refine blk_alloc ?_ _)); exact BK227.out⟩, ⟨by repeat (first | (with_reducible first | exact HB.out | apply below_alloc | apply pw_below_drewN | apply below_drew1 | refine below_set ?_ GE226.out | refine below_set ?_ GE227.out) | exact HB.out)⟩⟩
        ·
         rw [if_neg c24] at H
         have c24b0 : decide (1 < (l1_4.length : Int)) = false := decide_eq_false c24
         have c24b1 : decide (1 < l1_4.length) = false := decide_eq_false (by omega)
         clear c24
         have H' := Aside0.mk H
         clear H
         try go_wp2
         repeat (go_quiet (fail); try go_wp2)
         go_meet
         case rel => exact ⟨_, (false), (by first | rfl | (simp; done) | (simp [*]; done)), H', ⟨by have := HJ2.out; have := HJ12.out; first | omega | exact Nat.le_refl _⟩, ⟨by (with_reducible repeat (first | refine blk_drewN ?_ _ | refine blk_drew ?_ | refine blk_alloc ?_ _)); exact BK226.out⟩, ⟨by (with_reducible repeat (first | refine blk_drewN ?_ _ | refine blk_drew ?_ | refine blk_alloc ?_ _)); exact BK227.out⟩, ⟨by repeat (first | (with_reducible first | exact HB.out | apply below_alloc | apply pw_below_drewN | apply below_drew1 | refine below_set ?_ GE226.out | refine below_set ?_ GE227.out) | exact HB.out)⟩⟩
     case rest =>
      clear HC19
      obtain ⟨kq, x48_18, rfl, HA, HJ18, BK226, BK227, HB⟩ := hcut
      cases kq with
      | zero => exact absurd HA.out (by simp [ladderbackref26_Type.j2])
      | succ kj18 =>
       have H := HA.out
       clear HA
       simp only [ladderbackref26_Type.j2] at H
       by_cases c25 : x48_18 = true
       ·
        subst c25
        have H1 : (some 0) = some r := by rw [if_pos rfl] at H; exact H
        clear H
        have H := H1
        clear H1
        obtain rfl := Option.some.inj H
        try go_wp2
        repeat (go_quiet (fail); try go_wp2)
        go_ret
        exact ⟨by first | rfl | (simp [errW_none, errW_some] <;> rfl) | (simp [*, errW_none, errW_some] <;> rfl), by repeat (first | (with_reducible first | exact HB.out | apply below_alloc | apply pw_below_drewN | apply below_drew1 | refine below_set ?_ GE226.out | refine below_set ?_ GE227.out) | exact HB.out)⟩
       ·
        replace c25 := Bool.eq_false_iff.mpr c25
        subst c25
        have H1 : (if a1_0 = 1 then (if (l1_4.length : Int) = 0 then (if a1_3 = 0 then ((ladderbackref01_Right.f a1_1).bind fun t232 => (if t232 = true then ((ladderbackref01_In.f a1_1 a1_2).bind fun t233 => (ladderbackref26_Type.j3 kj18 0 t233 a1_0 a1_1 a1_2 a1_3 l1_4)) else (ladderbackref26_Type.j3 kj18 0 false a1_0 a1_1 a1_2 a1_3 l1_4))) else (ladderbackref26_Type.j3 kj18 0 false a1_0 a1_1 a1_2 a1_3 l1_4)) else (ladderbackref26_Type.j3 kj18 0 false a1_0 a1_1 a1_2 a1_3 l1_4)) else (if a1_0 = 2 then (ladderbackref26_Type.j4 kj18 (l1_4.length : Int) x6_2 x7_12 0 a1_0 (a1_0 == 2) l0_0 l0_1 l0_2 l0_3 a1_0 a1_1 a1_2 a1_3 l1_4) else (ladderbackref26_Type.j4 kj18 (l1_4.length : Int) x6_2 x7_12 0 a1_0 (a1_0 == 4) l0_0 l0_1 l0_2 l0_3 a1_0 a1_1 a1_2 a1_3 l1_4))) = some r := by rw [if_neg (show ¬ (false = true) by decide)] at H; exact H
        clear H
        have H := H1
        clear H1
        by_cases c26 : a1_0 = 1
        ·
         rw [if_pos c26] at H
         have c26b0 : (a1_0 == 1) = true := beq_iff_eq.mpr c26
         have c26b1 : (a1_0 != 1) = false := bne_eq_false_iff_eq.mpr c26
         clear c26
         have HC27 := Aside0.mk H
         clear H
         have hnb28 := NB227_226.out
         have hnc28 := NB226_227.out
         obtain ⟨hcz29_0, hcz29_1, hcz29_2, hcz29_3, hcz29_4⟩ := box5_ BK227.out
         obtain ⟨hfz29_0, hfz29_1, hfz29_2, hfz29_3, hfz29_4⟩ := frz5_ BK227.out
         go_upto_region 13 with (fail)
         repeat (go_quiet (fail); go_upto_region 13 with (fail))
         go_cut [71] from 49 to 71 (fun v71 wc => ∃ (kq : Nat) (x71_26 : Bool), v71 = .bool x71_26 ∧ Aside0 (ladderbackref26_Type.j3 kq 0 x71_26 a1_0 a1_1 a1_2 a1_3 l1_4 = some r) ∧ Aside0 (kq ≤ kj18) ∧ Aside0 (wc.heap[gb226]? = some (.cells #[(.slice A0_0 l0_0.length c0_0), (.slice A0_1 l0_1.length c0_1), (.slice A0_2 l0_2.length c0_2), (.slice A0_3 l0_3.length c0_3)] 37 (0, 0))) ∧ Aside0 (wc.heap[gb227]? = some (.cells #[.int .i64 a1_0, .int .i64 a1_1, .int .i64 a1_2, .int .i64 a1_3, (.slice A1_4 l1_4.length c1_4)] 30 (0, 0))) ∧ Aside0 (Below w.heap.size w wc))
         case first =>
          have H := HC27.out
          clear HC27
          by_cases c30 : (l1_4.length : Int) = 0
          ·
           rw [if_pos c30] at H
           have c30b0 : ((l1_4.length : Int) == 0) = true := beq_iff_eq.mpr c30
           have c30b1 : ((l1_4.length : Int) != 0) = false := bne_eq_false_iff_eq.mpr c30
           clear c30
           (first | rw [c30b0] | (simp only [i64_w, i32_w]; rw [c30b0]) | rw [c30b1] | skip)
           by_cases c31 : a1_3 = 0
           ·
            rw [if_pos c31] at H
            have c31b0 : (a1_3 == 0) = true := beq_iff_eq.mpr c31
            have c31b1 : (a1_3 != 0) = false := bne_eq_false_iff_eq.mpr c31
            clear c31
            replace H := Option.bind_eq_some_iff.mp H
            obtain ⟨t232, A320, H⟩ := H
            replace H : (if t232 = true then ((ladderbackref01_In.f a1_1 a1_2).bind fun t233 => (ladderbackref26_Type.j3 kj18 0 t233 a1_0 a1_1 a1_2 a1_3 l1_4)) else (ladderbackref26_Type.j3 kj18 0 false a1_0 a1_1 a1_2 a1_3 l1_4)) = some r := H
            have A32 := Aside0.mk A320
            clear A320
            by_cases c33 : t232 = true
            ·
             subst c33
             have H1 : ((ladderbackref01_In.f a1_1 a1_2).bind fun t233 => (ladderbackref26_Type.j3 kj18 0 t233 a1_0 a1_1 a1_2 a1_3 l1_4)) = some r := by rw [if_pos rfl] at H; exact H
             clear H
             have H := H1
             clear H1
             replace H := Option.bind_eq_some_iff.mp H
             obtain ⟨t233, A340, H⟩ := H
             replace H : (ladderbackref26_Type.j3 kj18 0 t233 a1_0 a1_1 a1_2 a1_3 l1_4) = some r := H
             have A34 := Aside0.mk A340
             clear A340
             have H' := Aside0.mk H
             clear H
             have hnb35 := NB227_226.out
             have hnc35 := NB226_227.out
             obtain ⟨hcz36_0, hcz36_1, hcz36_2, hcz36_3, hcz36_4⟩ := box5_ BK227.out
             obtain ⟨hfz36_0, hfz36_1, hfz36_2, hfz36_3, hfz36_4⟩ := frz5_ BK227.out
             try go_wp2_with (first | (go_at_call 66; (with_reducible refine (ladderbackref01_Right.calls a1_1 true _ A32.out).mono ?_); rintro e w' ⟨rfl, ⟨nd, rfl⟩⟩) | (go_at_call 67; (with_reducible refine (ladderbackref01_In.calls a1_1 a1_2 t233 _ A34.out).mono ?_); rintro e w' ⟨rfl, ⟨nd, rfl⟩⟩))
             repeat (go_quiet (fail); try go_wp2_with (first | (go_at_call 66; (with_reducible refine (ladderbackref01_Right.calls a1_1 true _ A32.out).mono ?_); rintro e w' ⟨rfl, ⟨nd, rfl⟩⟩) | (go_at_call 67; (with_reducible refine (ladderbackref01_In.calls a1_1 a1_2 t233 _ A34.out).mono ?_); rintro e w' ⟨rfl, ⟨nd, rfl⟩⟩)))
             go_meet
             case rel => exact ⟨_, (t233), (by first | rfl | (simp; done) | (simp [*]; done)), H', ⟨by have := HJ2.out; have := HJ12.out; have := HJ18.out; first | omega | exact Nat.le_refl _⟩, ⟨by (with_reducible repeat (first | refine blk_drewN ?_ _ | refine blk_drew ?_ | refine blk_alloc ?_ _)); exact BK226.out⟩, ⟨by (with_reducible repeat (first | refine blk_drewN ?_ _ | refine blk_drew ?_ | refine blk_alloc ?_ _)); exact BK227.out⟩, ⟨by repeat (first | (with_reducible first | exact HB.out | apply below_alloc | apply pw_below_drewN | apply below_drew1 | refine below_set ?_ GE226.out | refine below_set ?_ GE227.out) | exact HB.out)⟩⟩
            ·
             replace c33 := Bool.eq_false_iff.mpr c33
             subst c33
             have H1 : (ladderbackref26_Type.j3 kj18 0 false a1_0 a1_1 a1_2 a1_3 l1_4) = some r := by rw [if_neg (show ¬ (false = true) by decide)] at H; exact H
             clear H
             have H := H1
             clear H1
             have H' := Aside0.mk H
             clear H
             have hnb37 := NB227_226.out
             have hnc37 := NB226_227.out
             obtain ⟨hcz38_0, hcz38_1, hcz38_2, hcz38_3, hcz38_4⟩ := box5_ BK227.out
             obtain ⟨hfz38_0, hfz38_1, hfz38_2, hfz38_3, hfz38_4⟩ := frz5_ BK227.out
             try go_wp2_with (first | (go_at_call 66; (with_reducible refine (ladderbackref01_Right.calls a1_1 false _ A32.out).mono ?_); rintro e w' ⟨rfl, ⟨nd, rfl⟩⟩))
             repeat (go_quiet (fail); try go_wp2_with (first | (go_at_call 66; (with_reducible refine (ladderbackref01_Right.calls a1_1 false _ A32.out).mono ?_); rintro e w' ⟨rfl, ⟨nd, rfl⟩⟩)))
             go_meet
             case rel => exact ⟨_, (false), (by first | rfl | (simp; done) | (simp [*]; done)), H', ⟨by have := HJ2.out; have := HJ12.out; have := HJ18.out; first | omega | exact Nat.le_refl _⟩, ⟨by (with_reducible repeat (first | refine blk_drewN ?_ _ | refine blk_drew ?_ | refine blk_alloc ?_ _)); exact BK226.out⟩, ⟨by (with_reducible repeat (first | refine blk_drewN ?_ _ | refine blk_drew ?_ | refine blk_alloc ?_ _)); exact BK227.out⟩, ⟨by repeat (first | (with_reducible first | exact HB.out | apply below_alloc | apply pw_below_drewN | apply below_drew1 | refine below_set ?_ GE226.out | refine below_set ?_ GE227.out) | exact HB.out)⟩⟩
           ·
            rw [if_neg c31] at H
            have c31b0 : (a1_3 == 0) = false := beq_eq_false_iff_ne.mpr c31
            have c31b1 : (a1_3 != 0) = true := bne_iff_ne.mpr c31
            have H' := Aside0.mk H
            clear H
            have hnb39 := NB227_226.out
            have hnc39 := NB226_227.out
            obtain ⟨hcz40_0, hcz40_1, hcz40_2, hcz40_3, hcz40_4⟩ := box5_ BK227.out
            obtain ⟨hfz40_0, hfz40_1, hfz40_2, hfz40_3, hfz40_4⟩ := frz5_ BK227.out
            try go_wp2
            repeat (go_quiet (fail); try go_wp2)
            go_meet
            case rel => exact ⟨_, (false), (by first | rfl | (simp; done) | (simp [*]; done)), H', ⟨by have := HJ2.out; have := HJ12.out; have := HJ18.out; first | omega | exact Nat.le_refl _⟩, ⟨by (with_reducible repeat (first | refine blk_drewN ?_ _ | refine blk_drew ?_ | refine blk_alloc ?_ _)); exact BK226.out⟩, ⟨by (with_reducible repeat (first | refine blk_drewN ?_ _ | refine blk_drew ?_ | refine blk_alloc ?_ _)); exact BK227.out⟩, ⟨by repeat (first | (with_reducible first | exact HB.out | apply below_alloc | apply pw_below_drewN | apply below_drew1 | refine below_set ?_ GE226.out | refine below_set ?_ GE227.out) | exact HB.out)⟩⟩
          ·
           rw [if_neg c30] at H
           have c30b0 : ((l1_4.length : Int) == 0) = false := beq_eq_false_iff_ne.mpr c30
           have c30b1 : ((l1_4.length : Int) != 0) = true := bne_iff_ne.mpr c30
           have c30b2 : ¬ (l1_4 = []) := fun h_ => c30 (by rw [h_]; rfl)
           (first | rw [c30b0] | (simp only [i64_w, i32_w]; rw [c30b0]) | rw [c30b1] | skip)
           have H' := Aside0.mk H
           clear H
           try go_wp2
           repeat (go_quiet (fail); try go_wp2)
           go_meet
           case rel => exact ⟨_, (false), (by first | rfl | (simp; done) | (simp [*]; done)), H', ⟨by have := HJ2.out; have := HJ12.out; have := HJ18.out; first | omega | exact Nat.le_refl _⟩, ⟨by (with_reducible repeat (first | refine blk_drewN ?_ _ | refine blk_drew ?_ | refine blk_alloc ?_ _)); exact BK226.out⟩, ⟨by (with_reducible repeat (first | refine blk_drewN ?_ _ | refine blk_drew ?_ | refine blk_alloc ?_ _)); exact BK227.out⟩, ⟨by repeat (first | (with_reducible first | exact HB.out | apply below_alloc | apply pw_below_drewN | apply below_drew1 | refine below_set ?_ GE226.out | refine below_set ?_ GE227.out) | exact HB.out)⟩⟩
         case rest =>
          clear HC27
          (try clear c25); (try clear c26); (try clear c26b0); (try clear c26b1); (try clear hcz29_0); (try clear hcz29_1); (try clear hcz29_2); (try clear hcz29_3); (try clear hcz29_4); (try clear hfz29_0); (try clear hfz29_1); (try clear hfz29_2); (try clear hfz29_3); (try clear hfz29_4)
          obtain ⟨kq, x71_26, rfl, HA, HJ26, BK226, BK227, HB⟩ := hcut
          cases kq with
          | zero => exact absurd HA.out (by simp [ladderbackref26_Type.j3])
          | succ kj26 =>
           have H := HA.out
           clear HA
           simp only [ladderbackref26_Type.j3] at H
           by_cases c41 : x71_26 = true
           ·
            subst c41
            have H1 : ((ladderbackref01_Right.f a1_1).bind fun t234 => (if t234 = true then (some a1_1) else (some 0))) = some r := by rw [if_pos rfl] at H; exact H
            clear H
            have H := H1
            clear H1
            replace H := Option.bind_eq_some_iff.mp H
            obtain ⟨t234, A420, H⟩ := H
            replace H : (if t234 = true then (some a1_1) else (some 0)) = some r := H
            have A42 := Aside0.mk A420
            clear A420
            by_cases c43 : t234 = true
            ·
             subst c43
             have H1 : (some a1_1) = some r := by rw [if_pos rfl] at H; exact H
             clear H
             have H := H1
             clear H1
             obtain rfl := Option.some.inj H
             have hnb44 := NB227_226.out
             have hnc44 := NB226_227.out
             obtain ⟨hcz45_0, hcz45_1, hcz45_2, hcz45_3, hcz45_4⟩ := box5_ BK227.out
             obtain ⟨hfz45_0, hfz45_1, hfz45_2, hfz45_3, hfz45_4⟩ := frz5_ BK227.out
             try go_wp2_with (first | ((with_reducible refine gate_callee (f := 66) rfl ?_); refine goesL_ (some 314) rfl rfl Tryd.func66 (by kernel_rfl) rfl #[.int .i64 a1_1] rfl (by (try simp only [List.map_toArray, List.map_cons, List.map_nil]); first | done | rfl | (simp only [List.length_drop, List.length_take]; rfl)) ?_; (with_reducible refine (ladderbackref01_Right.calls a1_1 true _ A42.out).mono ?_); rintro e w' ⟨rfl, ⟨nd, rfl⟩⟩; refine ⟨_, rfl, ?_⟩))
             repeat (go_quiet (fail); try go_wp2_with (first | ((with_reducible refine gate_callee (f := 66) rfl ?_); refine goesL_ (some 314) rfl rfl Tryd.func66 (by kernel_rfl) rfl #[.int .i64 a1_1] rfl (by (try simp only [List.map_toArray, List.map_cons, List.map_nil]); first | done | rfl | (simp only [List.length_drop, List.length_take]; rfl)) ?_; (with_reducible refine (ladderbackref01_Right.calls a1_1 true _ A42.out).mono ?_); rintro e w' ⟨rfl, ⟨nd, rfl⟩⟩; refine ⟨_, rfl, ?_⟩)))
             go_ret
             exact ⟨by first | rfl | (simp [errW_none, errW_some] <;> rfl) | (simp [*, errW_none, errW_some] <;> rfl), by repeat (first | (with_reducible first | exact HB.out | apply below_alloc | apply pw_below_drewN | apply below_drew1 | refine below_set ?_ GE226.out | refine below_set ?_ GE227.out) | exact HB.out)⟩
            ·
             replace c43 := Bool.eq_false_iff.mpr c43
             subst c43
             have H1 : (some 0) = some r := by rw [if_neg (show ¬ (false = true) by decide)] at H; exact H
             clear H
             have H := H1
             clear H1
             obtain rfl := Option.some.inj H
             have hnb46 := NB227_226.out
             have hnc46 := NB226_227.out
             obtain ⟨hcz47_0, hcz47_1, hcz47_2, hcz47_3, hcz47_4⟩ := box5_ BK227.out
             obtain ⟨hfz47_0, hfz47_1, hfz47_2, hfz47_3, hfz47_4⟩ := frz5_ BK227.out
             try go_wp2_with (first | ((with_reducible refine gate_callee (f := 66) rfl ?_); refine goesL_ (some 314) rfl rfl Tryd.func66 (by kernel_rfl) rfl #[.int .i64 a1_1] rfl (by (try simp only [List.map_toArray, List.map_cons, List.map_nil]); first | done | rfl | (simp only [List.length_drop, List.length_take]; rfl)) ?_; (with_reducible refine (ladderbackref01_Right.calls a1_1 false _ A42.out).mono ?_); rintro e w' ⟨rfl, ⟨nd, rfl⟩⟩; refine ⟨_, rfl, ?_⟩))
             repeat (go_quiet (fail); try go_wp2_with (first | ((with_reducible refine gate_callee (f := 66) rfl ?_); refine goesL_ (some 314) rfl rfl Tryd.func66 (by kernel_rfl) rfl #[.int .i64 a1_1] rfl (by (try simp only [List.map_toArray, List.map_cons, List.map_nil]); first | done | rfl | (simp only [List.length_drop, List.length_take]; rfl)) ?_; (with_reducible refine (ladderbackref01_Right.calls a1_1 false _ A42.out).mono ?_); rintro e w' ⟨rfl, ⟨nd, rfl⟩⟩; refine ⟨_, rfl, ?_⟩)))
             go_ret
             exact ⟨by first | rfl | (simp [errW_none, errW_some] <;> rfl) | (simp [*, errW_none, errW_some] <;> rfl), by repeat (first | (with_reducible first | exact HB.out | apply below_alloc | apply pw_below_drewN | apply below_drew1 | refine below_set ?_ GE226.out | refine below_set ?_ GE227.out) | exact HB.out)⟩
           ·
            replace c41 := Bool.eq_false_iff.mpr c41
            subst c41
            have H1 : ((ladderbackref01_Right.f 0).bind fun t235 => (if t235 = true then (some 0) else (some 0))) = some r := by rw [if_neg (show ¬ (false = true) by decide)] at H; exact H
            clear H
            have H := H1
            clear H1
            replace H := Option.bind_eq_some_iff.mp H
            obtain ⟨t235, A480, H⟩ := H
            replace H : (if t235 = true then (some 0) else (some 0)) = some r := H
            have A48 := Aside0.mk A480
            clear A480
            by_cases c49 : t235 = true
            ·
             subst c49
             have H1 : (some 0) = some r := by rw [if_pos rfl] at H; exact H
             clear H
             have H := H1
             clear H1
             obtain rfl := Option.some.inj H
             try go_wp2_with (first | ((with_reducible refine gate_callee (f := 66) rfl ?_); refine goesL_ (some 314) rfl rfl Tryd.func66 (by kernel_rfl) rfl #[.int .i64 0] rfl (by (try simp only [List.map_toArray, List.map_cons, List.map_nil]); first | done | rfl | (simp only [List.length_drop, List.length_take]; rfl)) ?_; (with_reducible refine (ladderbackref01_Right.calls 0 true _ A48.out).mono ?_); rintro e w' ⟨rfl, ⟨nd, rfl⟩⟩; refine ⟨_, rfl, ?_⟩))
             repeat (go_quiet (fail); try go_wp2_with (first | ((with_reducible refine gate_callee (f := 66) rfl ?_); refine goesL_ (some 314) rfl rfl Tryd.func66 (by kernel_rfl) rfl #[.int .i64 0] rfl (by (try simp only [List.map_toArray, List.map_cons, List.map_nil]); first | done | rfl | (simp only [List.length_drop, List.length_take]; rfl)) ?_; (with_reducible refine (ladderbackref01_Right.calls 0 true _ A48.out).mono ?_); rintro e w' ⟨rfl, ⟨nd, rfl⟩⟩; refine ⟨_, rfl, ?_⟩)))
             go_ret
             exact ⟨by first | rfl | (simp [errW_none, errW_some] <;> rfl) | (simp [*, errW_none, errW_some] <;> rfl), by repeat (first | (with_reducible first | exact HB.out | apply below_alloc | apply pw_below_drewN | apply below_drew1 | refine below_set ?_ GE226.out | refine below_set ?_ GE227.out) | exact HB.out)⟩
            ·
             replace c49 := Bool.eq_false_iff.mpr c49
             subst c49
             have H1 : (some 0) = some r := by rw [if_neg (show ¬ (false = true) by decide)] at H; exact H
             clear H
             have H := H1
             clear H1
             obtain rfl := Option.some.inj H
             try go_wp2_with (first | ((with_reducible refine gate_callee (f := 66) rfl ?_); refine goesL_ (some 314) rfl rfl Tryd.func66 (by kernel_rfl) rfl #[.int .i64 0] rfl (by (try simp only [List.map_toArray, List.map_cons, List.map_nil]); first | done | rfl | (simp only [List.length_drop, List.length_take]; rfl)) ?_; (with_reducible refine (ladderbackref01_Right.calls 0 false _ A48.out).mono ?_); rintro e w' ⟨rfl, ⟨nd, rfl⟩⟩; refine ⟨_, rfl, ?_⟩))
             repeat (go_quiet (fail); try go_wp2_with (first | ((with_reducible refine gate_callee (f := 66) rfl ?_); refine goesL_ (some 314) rfl rfl Tryd.func66 (by kernel_rfl) rfl #[.int .i64 0] rfl (by (try simp only [List.map_toArray, List.map_cons, List.map_nil]); first | done | rfl | (simp only [List.length_drop, List.length_take]; rfl)) ?_; (with_reducible refine (ladderbackref01_Right.calls 0 false _ A48.out).mono ?_); rintro e w' ⟨rfl, ⟨nd, rfl⟩⟩; refine ⟨_, rfl, ?_⟩)))
             go_ret
             exact ⟨by first | rfl | (simp [errW_none, errW_some] <;> rfl) | (simp [*, errW_none, errW_some] <;> rfl), by repeat (first | (with_reducible first | exact HB.out | apply below_alloc | apply pw_below_drewN | apply below_drew1 | refine below_set ?_ GE226.out | refine below_set ?_ GE227.out) | exact HB.out)⟩
        ·
         rw [if_neg c26] at H
         have c26b0 : (a1_0 == 1) = false := beq_eq_false_iff_ne.mpr c26
         have c26b1 : (a1_0 != 1) = true := bne_iff_ne.mpr c26
         have HC50 := Aside0.mk H
         clear H
         have hnb51 := NB227_226.out
         have hnc51 := NB226_227.out
         obtain ⟨hcz52_0, hcz52_1, hcz52_2, hcz52_3, hcz52_4⟩ := box5_ BK227.out
         obtain ⟨hfz52_0, hfz52_1, hfz52_2, hfz52_3, hfz52_4⟩ := frz5_ BK227.out
         go_upto_if 74 with (fail)
         repeat (go_quiet (fail); go_upto_if 74 with (fail))
         go_cut [74] from 72 to 76 (fun v74 wc => ∃ (kq : Nat) (x74_49 : Bool), v74 = .bool x74_49 ∧ Aside0 (ladderbackref26_Type.j4 kq (l1_4.length : Int) x6_2 x7_12 0 a1_0 x74_49 l0_0 l0_1 l0_2 l0_3 a1_0 a1_1 a1_2 a1_3 l1_4 = some r) ∧ Aside0 (kq ≤ kj18) ∧ Aside0 (wc.heap[gb226]? = some (.cells #[(.slice A0_0 l0_0.length c0_0), (.slice A0_1 l0_1.length c0_1), (.slice A0_2 l0_2.length c0_2), (.slice A0_3 l0_3.length c0_3)] 37 (0, 0))) ∧ Aside0 (wc.heap[gb227]? = some (.cells #[.int .i64 a1_0, .int .i64 a1_1, .int .i64 a1_2, .int .i64 a1_3, (.slice A1_4 l1_4.length c1_4)] 30 (0, 0))) ∧ Aside0 (Below w.heap.size w wc))
         case first =>
          have H := HC50.out
          clear HC50
          by_cases c53 : a1_0 = 2
          ·
           rw [if_pos c53] at H
           have c53b0 : (a1_0 == 2) = true := beq_iff_eq.mpr c53
           have c53b1 : (a1_0 != 2) = false := bne_eq_false_iff_eq.mpr c53
           clear c53
           (first | rw [c53b0] | (simp only [i64_w, i32_w]; rw [c53b0]) | rw [c53b1] | skip)
           have H' := Aside0.mk H
           clear H
           try go_wp2
           repeat (go_quiet (fail); try go_wp2)
           go_meet
           case rel => exact ⟨_, ((a1_0 == 2)), (by first | rfl | (simp; done) | (simp [*]; done)), H', ⟨by have := HJ2.out; have := HJ12.out; have := HJ18.out; first | omega | exact Nat.le_refl _⟩, ⟨by (with_reducible repeat (first | refine blk_drewN ?_ _ | refine blk_drew ?_ | refine blk_alloc ?_ _)); exact BK226.out⟩, ⟨by (with_reducible repeat (first | refine blk_drewN ?_ _ | refine blk_drew ?_ | refine blk_alloc ?_ _)); exact BK227.out⟩, ⟨by repeat (first | (with_reducible first | exact HB.out | apply below_alloc | apply pw_below_drewN | apply below_drew1 | refine below_set ?_ GE226.out | refine below_set ?_ GE227.out) | exact HB.out)⟩⟩
          ·
           rw [if_neg c53] at H
           have c53b0 : (a1_0 == 2) = false := beq_eq_false_iff_ne.mpr c53
           have c53b1 : (a1_0 != 2) = true := bne_iff_ne.mpr c53
           (first | rw [c53b0] | (simp only [i64_w, i32_w]; rw [c53b0]) | rw [c53b1] | skip)
           have H' := Aside0.mk H
           clear H
           try go_wp2
           repeat (go_quiet (fail); try go_wp2)
           go_meet
           case rel => exact ⟨_, ((a1_0 == 4)), (by first | rfl | (simp; done) | (simp [*]; done)), H', ⟨by have := HJ2.out; have := HJ12.out; have := HJ18.out; first | omega | exact Nat.le_refl _⟩, ⟨by (with_reducible repeat (first | refine blk_drewN ?_ _ | refine blk_drew ?_ | refine blk_alloc ?_ _)); exact BK226.out⟩, ⟨by (with_reducible repeat (first | refine blk_drewN ?_ _ | refine blk_drew ?_ | refine blk_alloc ?_ _)); exact BK227.out⟩, ⟨by repeat (first | (with_reducible first | exact HB.out | apply below_alloc | apply pw_below_drewN | apply below_drew1 | refine below_set ?_ GE226.out | refine below_set ?_ GE227.out) | exact HB.out)⟩⟩
         case rest =>
          clear HC50
          (try clear c25); (try clear c26); (try clear c26b0); (try clear c26b1); (try clear hcz52_0); (try clear hcz52_1); (try clear hcz52_2); (try clear hcz52_3); (try clear hcz52_4); (try clear hfz52_0); (try clear hfz52_1); (try clear hfz52_2); (try clear hfz52_3); (try clear hfz52_4)
          obtain ⟨kq, x74_49, rfl, HA, HJ49, BK226, BK227, HB⟩ := hcut
          cases kq with
          | zero => exact absurd HA.out (by simp [ladderbackref26_Type.j4])
          | succ kj49 =>
           have H := HA.out
           clear HA
           simp only [ladderbackref26_Type.j4] at H
           by_cases c54 : x74_49 = true
           ·
            subst c54
            have H1 : (if (l1_4.length : Int) = (wrap64 (Int.tdiv (wrap64 (a1_0 - 2)) 2)) then (if a1_1 = 0 then (if a1_3 = 0 then (if a1_2 ≥ 0 then (if a1_2 < (l0_0.length : Int) then (if 0 ≤ a1_2 then (if ((decide (((rd_T42 l0_0 a1_2).f2) > 1)) == (a1_0 == 4)) = true then (if (l1_4.length : Int) = 0 then (ladderbackref26_Type.j5 kj49 0 true l0_0 l0_1 l0_2 l0_3 a1_0 a1_1 a1_2 a1_3 l1_4) else (ladderbackref26_Type.j5 kj49 0 (x6_2 == 2) l0_0 l0_1 l0_2 l0_3 a1_0 a1_1 a1_2 a1_3 l1_4)) else (ladderbackref26_Type.j5 kj49 0 false l0_0 l0_1 l0_2 l0_3 a1_0 a1_1 a1_2 a1_3 l1_4)) else (none)) else (ladderbackref26_Type.j5 kj49 0 false l0_0 l0_1 l0_2 l0_3 a1_0 a1_1 a1_2 a1_3 l1_4)) else (ladderbackref26_Type.j5 kj49 0 false l0_0 l0_1 l0_2 l0_3 a1_0 a1_1 a1_2 a1_3 l1_4)) else (ladderbackref26_Type.j5 kj49 0 false l0_0 l0_1 l0_2 l0_3 a1_0 a1_1 a1_2 a1_3 l1_4)) else (ladderbackref26_Type.j5 kj49 0 false l0_0 l0_1 l0_2 l0_3 a1_0 a1_1 a1_2 a1_3 l1_4)) else (ladderbackref26_Type.j5 kj49 0 false l0_0 l0_1 l0_2 l0_3 a1_0 a1_1 a1_2 a1_3 l1_4)) = some r := by rw [if_pos rfl] at H; exact H
            clear H
            have H := H1
            clear H1
            have HC55 := Aside0.mk H
            clear H
            go_upto_region 17 with (fail)
            repeat (go_quiet (fail); go_upto_region 17 with (fail))
            go_cut [127] from 77 to 127 (fun v127 wc => ∃ (kq : Nat) (x127_54 : Bool), v127 = .bool x127_54 ∧ Aside0 (ladderbackref26_Type.j5 kq 0 x127_54 l0_0 l0_1 l0_2 l0_3 a1_0 a1_1 a1_2 a1_3 l1_4 = some r) ∧ Aside0 (kq ≤ kj49) ∧ Aside0 (wc.heap[gb226]? = some (.cells #[(.slice A0_0 l0_0.length c0_0), (.slice A0_1 l0_1.length c0_1), (.slice A0_2 l0_2.length c0_2), (.slice A0_3 l0_3.length c0_3)] 37 (0, 0))) ∧ Aside0 (wc.heap[gb227]? = some (.cells #[.int .i64 a1_0, .int .i64 a1_1, .int .i64 a1_2, .int .i64 a1_3, (.slice A1_4 l1_4.length c1_4)] 30 (0, 0))) ∧ Aside0 (Below w.heap.size w wc))
            case first =>
             have H := HC55.out
             clear HC55
             by_cases c56 : (l1_4.length : Int) = (wrap64 (Int.tdiv (wrap64 (a1_0 - 2)) 2))
             ·
              rw [if_pos c56] at H
              have c56b0 : ((l1_4.length : Int) == (wrap64 (Int.tdiv (wrap64 (a1_0 - 2)) 2))) = true := beq_iff_eq.mpr c56
              have c56b1 : ((l1_4.length : Int) != (wrap64 (Int.tdiv (wrap64 (a1_0 - 2)) 2))) = false := bne_eq_false_iff_eq.mpr c56
              clear c56
              (first | rw [c56b0] | (simp only [i64_w, i32_w]; rw [c56b0]) | rw [c56b1] | skip)
              by_cases c57 : a1_1 = 0
              ·
               rw [if_pos c57] at H
               have c57b0 : (a1_1 == 0) = true := beq_iff_eq.mpr c57
               have c57b1 : (a1_1 != 0) = false := bne_eq_false_iff_eq.mpr c57
               clear c57
               by_cases c58 : a1_3 = 0
               ·
                rw [if_pos c58] at H
                have c58b0 : (a1_3 == 0) = true := beq_iff_eq.mpr c58
                have c58b1 : (a1_3 != 0) = false := bne_eq_false_iff_eq.mpr c58
                clear c58
                by_cases c59 : a1_2 ≥ 0
                ·
                 rw [if_pos c59] at H
                 have c59b0 : decide (0 ≤ a1_2) = true := decide_eq_true c59
                 clear c59
                 by_cases c60 : a1_2 < (l0_0.length : Int)
                 ·
                  rw [if_pos c60] at H
                  have c60b0 : decide (a1_2 < (l0_0.length : Int)) = true := decide_eq_true c60
                  clear c60
                  by_cases c61 : 0 ≤ a1_2
                  ·
                   rw [if_pos c61] at H
                   have c61b0 : decide (0 ≤ a1_2) = true := decide_eq_true c61
                   clear c61
                   by_cases c62 : ((decide (((rd_T42 l0_0 a1_2).f2) > 1)) == (a1_0 == 4)) = true
                   ·
                    rw [if_pos c62] at H
                    have c62b0 : ((decide (((rd_T42 l0_0 a1_2).f2) > 1)) == (a1_0 == 4)) = true := c62
                    (try (have c62b1 : decide ((decide (((rd_T42 l0_0 a1_2).f2) > 1)) = (a1_0 == 4)) = true := by simpa using c62))
                    (try (have c62b2 : ((decide (((rd_T42 l0_0 a1_2).f2) > 1)) == (a1_0 == 4)) = true := by simpa using c62))
                    clear c62
                    by_cases c63 : (l1_4.length : Int) = 0
                    ·
                     rw [if_pos c63] at H
                     have c63b0 : ((l1_4.length : Int) == 0) = true := beq_iff_eq.mpr c63
                     have c63b1 : ((l1_4.length : Int) != 0) = false := bne_eq_false_iff_eq.mpr c63
                     clear c63
                     have H' := Aside0.mk H
                     clear H
                     have hnb64 := NB227_226.out
                     have hnc64 := NB226_227.out
                     obtain ⟨hcz65_0, hcz65_1, hcz65_2, hcz65_3, hcz65_4⟩ := box5_ BK227.out
                     obtain ⟨hfz65_0, hfz65_1, hfz65_2, hfz65_3, hfz65_4⟩ := frz5_ BK227.out
                     obtain ⟨hcz66_0, hcz66_1, hcz66_2, hcz66_3⟩ := box4_ BK226.out
                     obtain ⟨hfz66_0, hfz66_1, hfz66_2, hfz66_3⟩ := frz4_ BK226.out
                     have p236 : 0 ≤ (a1_2 : Int) := of_decide_eq_true (by first | (with_reducible assumption) | assumption)
                     have q236 : a1_2 < (l0_0.length : Int) := of_decide_eq_true (by first | (with_reducible assumption) | assumption)
                     obtain ⟨ad236, e236, hx236_0, hx236_1, hx236_2, hx236_3, hx236_4⟩ := at_T42 HR0_0.out a1_2 p236 q236
                     cases e236
                     replace hx236_0 := (HB.out.cell (World.block_lt_of_cell? w _ hx236_0)).trans hx236_0
                     replace hx236_1 := (HB.out.cell (World.block_lt_of_cell? w _ hx236_1)).trans hx236_1
                     replace hx236_2 := (HB.out.cell (World.block_lt_of_cell? w _ hx236_2)).trans hx236_2
                     replace hx236_3 := (HB.out.cell (World.block_lt_of_cell? w _ hx236_3)).trans hx236_3
                     replace hx236_4 := (HB.out.cell (World.block_lt_of_cell? w _ hx236_4)).trans hx236_4
                     replace p236 := eq_true p236
                     replace q236 := eq_true q236
                     try go_wp2
                     repeat (go_quiet (fail); try go_wp2)
                     go_meet
                     case rel => exact ⟨_, (true), (by first | rfl | (simp; done) | (simp [*]; done)), H', ⟨by have := HJ2.out; have := HJ12.out; have := HJ18.out; have := HJ49.out; first | omega | exact Nat.le_refl _⟩, ⟨by (with_reducible repeat (first | refine blk_drewN ?_ _ | refine blk_drew ?_ | refine blk_alloc ?_ _)); exact BK226.out⟩, ⟨by (with_reducible repeat (first | refine blk_drewN ?_ _ | refine blk_drew ?_ | refine blk_alloc ?_ _)); exact BK227.out⟩, ⟨by repeat (first | (with_reducible first | exact HB.out | apply below_alloc | apply pw_below_drewN | apply below_drew1 | refine below_set ?_ GE226.out | refine below_set ?_ GE227.out) | exact HB.out)⟩⟩
                    ·
                     rw [if_neg c63] at H
                     have c63b0 : ((l1_4.length : Int) == 0) = false := beq_eq_false_iff_ne.mpr c63
                     have c63b1 : ((l1_4.length : Int) != 0) = true := bne_iff_ne.mpr c63
                     have c63b2 : ¬ (l1_4 = []) := fun h_ => c63 (by rw [h_]; rfl)
                     have H' := Aside0.mk H
                     clear H
                     have hnb67 := NB227_226.out
                     have hnc67 := NB226_227.out
                     obtain ⟨hcz68_0, hcz68_1, hcz68_2, hcz68_3, hcz68_4⟩ := box5_ BK227.out
                     obtain ⟨hfz68_0, hfz68_1, hfz68_2, hfz68_3, hfz68_4⟩ := frz5_ BK227.out
                     obtain ⟨hcz69_0, hcz69_1, hcz69_2, hcz69_3⟩ := box4_ BK226.out
                     obtain ⟨hfz69_0, hfz69_1, hfz69_2, hfz69_3⟩ := frz4_ BK226.out
                     have p236 : 0 ≤ (a1_2 : Int) := of_decide_eq_true (by first | (with_reducible assumption) | assumption)
                     have q236 : a1_2 < (l0_0.length : Int) := of_decide_eq_true (by first | (with_reducible assumption) | assumption)
                     obtain ⟨ad236, e236, hx236_0, hx236_1, hx236_2, hx236_3, hx236_4⟩ := at_T42 HR0_0.out a1_2 p236 q236
                     cases e236
                     replace hx236_0 := (HB.out.cell (World.block_lt_of_cell? w _ hx236_0)).trans hx236_0
                     replace hx236_1 := (HB.out.cell (World.block_lt_of_cell? w _ hx236_1)).trans hx236_1
                     replace hx236_2 := (HB.out.cell (World.block_lt_of_cell? w _ hx236_2)).trans hx236_2
                     replace hx236_3 := (HB.out.cell (World.block_lt_of_cell? w _ hx236_3)).trans hx236_3
                     replace hx236_4 := (HB.out.cell (World.block_lt_of_cell? w _ hx236_4)).trans hx236_4
                     replace p236 := eq_true p236
                     replace q236 := eq_true q236
                     try go_wp2
                     repeat (go_quiet (fail); try go_wp2)
                     go_meet
                     case rel => exact ⟨_, ((x6_2 == 2)), (by first | rfl | (simp; done) | (simp [*]; done)), H', ⟨by have := HJ2.out; have := HJ12.out; have := HJ18.out; have := HJ49.out; first | omega | exact Nat.le_refl _⟩, ⟨by (with_reducible repeat (first | refine blk_drewN ?_ _ | refine blk_drew ?_ | refine blk_alloc ?_ _)); exact BK226.out⟩, ⟨by (with_reducible repeat (first | refine blk_drewN ?_ _ | refine blk_drew ?_ | refine blk_alloc ?_ _)); exact BK227.out⟩, ⟨by repeat (first | (with_reducible first | exact HB.out | apply below_alloc | apply pw_below_drewN | apply below_drew1 | refine below_set ?_ GE226.out | refine below_set ?_ GE227.out) | exact HB.out)⟩⟩
                   ·
                    rw [if_neg c62] at H
                    have c62b0 : ((decide (((rd_T42 l0_0 a1_2).f2) > 1)) == (a1_0 == 4)) = false := by simpa using c62
                    (try (have c62b1 : decide ((decide (((rd_T42 l0_0 a1_2).f2) > 1)) = (a1_0 == 4)) = false := by simpa using c62))
                    (try (have c62b2 : ((decide (((rd_T42 l0_0 a1_2).f2) > 1)) == (a1_0 == 4)) = false := by simpa using c62))
                    (try (have c62b3 : ¬ ((decide (((rd_T42 l0_0 a1_2).f2) > 1)) = (a1_0 == 4)) := by simpa using c62))
                    clear c62
                    have H' := Aside0.mk H
                    clear H
                    have hnb70 := NB227_226.out
                    have hnc70 := NB226_227.out
                    obtain ⟨hcz71_0, hcz71_1, hcz71_2, hcz71_3, hcz71_4⟩ := box5_ BK227.out
                    obtain ⟨hfz71_0, hfz71_1, hfz71_2, hfz71_3, hfz71_4⟩ := frz5_ BK227.out
                    obtain ⟨hcz72_0, hcz72_1, hcz72_2, hcz72_3⟩ := box4_ BK226.out
                    obtain ⟨hfz72_0, hfz72_1, hfz72_2, hfz72_3⟩ := frz4_ BK226.out
                    have p236 : 0 ≤ (a1_2 : Int) := of_decide_eq_true (by first | (with_reducible assumption) | assumption)
                    have q236 : a1_2 < (l0_0.length : Int) := of_decide_eq_true (by first | (with_reducible assumption) | assumption)
                    obtain ⟨ad236, e236, hx236_0, hx236_1, hx236_2, hx236_3, hx236_4⟩ := at_T42 HR0_0.out a1_2 p236 q236
                    cases e236
                    replace hx236_0 := (HB.out.cell (World.block_lt_of_cell? w _ hx236_0)).trans hx236_0
                    replace hx236_1 := (HB.out.cell (World.block_lt_of_cell? w _ hx236_1)).trans hx236_1
                    replace hx236_2 := (HB.out.cell (World.block_lt_of_cell? w _ hx236_2)).trans hx236_2
                    replace hx236_3 := (HB.out.cell (World.block_lt_of_cell? w _ hx236_3)).trans hx236_3
                    replace hx236_4 := (HB.out.cell (World.block_lt_of_cell? w _ hx236_4)).trans hx236_4
                    replace p236 := eq_true p236
                    replace q236 := eq_true q236
                    try go_wp2
                    repeat (go_quiet (fail); try go_wp2)
                    go_meet
                    case rel => exact ⟨_, (false), (by first | rfl | (simp; done) | (simp [*]; done)), H', ⟨by have := HJ2.out; have := HJ12.out; have := HJ18.out; have := HJ49.out; first | omega | exact Nat.le_refl _⟩, ⟨by (with_reducible repeat (first | refine blk_drewN ?_ _ | refine blk_drew ?_ | refine blk_alloc ?_ _)); exact BK226.out⟩, ⟨by (with_reducible repeat (first | refine blk_drewN ?_ _ | refine blk_drew ?_ | refine blk_alloc ?_ _)); exact BK227.out⟩, ⟨by repeat (first | (with_reducible first | exact HB.out | apply below_alloc | apply pw_below_drewN | apply below_drew1 | refine below_set ?_ GE226.out | refine below_set ?_ GE227.out) | exact HB.out)⟩⟩
                  ·
                   rw [if_neg c61] at H
                   exact absurd H (by simp)
                 ·
                  rw [if_neg c60] at H
                  have c60b0 : decide (a1_2 < (l0_0.length : Int)) = false := decide_eq_false c60
                  clear c60
                  have H' := Aside0.mk H
                  clear H
                  have hnb73 := NB227_226.out
                  have hnc73 := NB226_227.out
                  obtain ⟨hcz74_0, hcz74_1, hcz74_2, hcz74_3, hcz74_4⟩ := box5_ BK227.out
                  obtain ⟨hfz74_0, hfz74_1, hfz74_2, hfz74_3, hfz74_4⟩ := frz5_ BK227.out
                  obtain ⟨hcz75_0, hcz75_1, hcz75_2, hcz75_3⟩ := box4_ BK226.out
                  obtain ⟨hfz75_0, hfz75_1, hfz75_2, hfz75_3⟩ := frz4_ BK226.out
                  try go_wp2
                  repeat (go_quiet (fail); try go_wp2)
                  go_meet
                  case rel => exact ⟨_, (false), (by first | rfl | (simp; done) | (simp [*]; done)), H', ⟨by have := HJ2.out; have := HJ12.out; have := HJ18.out; have := HJ49.out; first | omega | exact Nat.le_refl _⟩, ⟨by (with_reducible repeat (first | refine blk_drewN ?_ _ | refine blk_drew ?_ | refine blk_alloc ?_ _)); exact BK226.out⟩, ⟨by (with_reducible repeat (first | refine blk_drewN ?_ _ | refine blk_drew ?_ | refine blk_alloc ?_ _)); exact BK227.out⟩, ⟨by repeat (first | (with_reducible first | exact HB.out | apply below_alloc | apply pw_below_drewN | apply below_drew1 | refine below_set ?_ GE226.out | refine below_set ?_ GE227.out) | exact HB.out)⟩⟩
                ·
                 rw [if_neg c59] at H
                 have c59b0 : decide (0 ≤ a1_2) = false := decide_eq_false c59
                 clear c59
                 have H' := Aside0.mk H
                 clear H
                 have hnb76 := NB227_226.out
                 have hnc76 := NB226_227.out
                 obtain ⟨hcz77_0, hcz77_1, hcz77_2, hcz77_3, hcz77_4⟩ := box5_ BK227.out
                 obtain ⟨hfz77_0, hfz77_1, hfz77_2, hfz77_3, hfz77_4⟩ := frz5_ BK227.out
                 try go_wp2
                 repeat (go_quiet (fail); try go_wp2)
                 go_meet
                 case rel => exact ⟨_, (false), (by first | rfl | (simp; done) | (simp [*]; done)), H', ⟨by have := HJ2.out; have := HJ12.out; have := HJ18.out; have := HJ49.out; first | omega | exact Nat.le_refl _⟩, ⟨by (with_reducible repeat (first | refine blk_drewN ?_ _ | refine blk_drew ?_ | refine blk_alloc ?_ _)); exact BK226.out⟩, ⟨by (with_reducible repeat (first | refine blk_drewN ?_ _ | refine blk_drew ?_ | refine blk_alloc ?_ _)); exact BK227.out⟩, ⟨by repeat (first | (with_reducible first | exact HB.out | apply below_alloc | apply pw_below_drewN | apply below_drew1 | refine below_set ?_ GE226.out | refine below_set ?_ GE227.out) | exact HB.out)⟩⟩
               ·
                rw [if_neg c58] at H
                have c58b0 : (a1_3 == 0) = false := beq_eq_false_iff_ne.mpr c58
                have c58b1 : (a1_3 != 0) = true := bne_iff_ne.mpr c58
                have H' := Aside0.mk H
                clear H
                have hnb78 := NB227_226.out
                have hnc78 := NB226_227.out
                obtain ⟨hcz79_0, hcz79_1, hcz79_2, hcz79_3, hcz79_4⟩ := box5_ BK227.out
                obtain ⟨hfz79_0, hfz79_1, hfz79_2, hfz79_3, hfz79_4⟩ := frz5_ BK227.out
                try go_wp2
                repeat (go_quiet (fail); try go_wp2)
                go_meet
                case rel => exact ⟨_, (false), (by first | rfl | (simp; done) | (simp [*]; done)), H', ⟨by have := HJ2.out; have := HJ12.out; have := HJ18.out; have := HJ49.out; first | omega | exact Nat.le_refl _⟩, ⟨by (with_reducible repeat (first | refine blk_drewN ?_ _ | refine blk_drew ?_ | refine blk_alloc ?_ _)); exact BK226.out⟩, ⟨by (with_reducible repeat (first | refine blk_drewN ?_ _ | refine blk_drew ?_ | refine blk_alloc ?_ _)); exact BK227.out⟩, ⟨by repeat (first | (with_reducible first | exact HB.out | apply below_alloc | apply pw_below_drewN | apply below_drew1 | refine below_set ?_ GE226.out | refine below_set ?_ GE227.out) | exact HB.out)⟩⟩
              ·
               rw [if_neg c57] at H
               have c57b0 : (a1_1 == 0) = false := beq_eq_false_iff_ne.mpr c57
               have c57b1 : (a1_1 != 0) = true := bne_iff_ne.mpr c57
               have H' := Aside0.mk H
               clear H
               have hnb80 := NB227_226.out
               have hnc80 := NB226_227.out
               obtain ⟨hcz81_0, hcz81_1, hcz81_2, hcz81_3, hcz81_4⟩ := box5_ BK227.out
               obtain ⟨hfz81_0, hfz81_1, hfz81_2, hfz81_3, hfz81_4⟩ := frz5_ BK227.out
               try go_wp2
               repeat (go_quiet (fail); try go_wp2)
               go_meet
               case rel => exact ⟨_, (false), (by first | rfl | (simp; done) | (simp [*]; done)), H', ⟨by have := HJ2.out; have := HJ12.out; have := HJ18.out; have := HJ49.out; first | omega | exact Nat.le_refl _⟩, ⟨by (with_reducible repeat (first | refine blk_drewN ?_ _ | refine blk_drew ?_ | refine blk_alloc ?_ _)); exact BK226.out⟩, ⟨by (with_reducible repeat (first | refine blk_drewN ?_ _ | refine blk_drew ?_ | refine blk_alloc ?_ _)); exact BK227.out⟩, ⟨by repeat (first | (with_reducible first | exact HB.out | apply below_alloc | apply pw_below_drewN | apply below_drew1 | refine below_set ?_ GE226.out | refine below_set ?_ GE227.out) | exact HB.out)⟩⟩
             ·
              rw [if_neg c56] at H
              have c56b0 : ((l1_4.length : Int) == (wrap64 (Int.tdiv (wrap64 (a1_0 - 2)) 2))) = false := beq_eq_false_iff_ne.mpr c56
              have c56b1 : ((l1_4.length : Int) != (wrap64 (Int.tdiv (wrap64 (a1_0 - 2)) 2))) = true := bne_iff_ne.mpr c56
              (first | rw [c56b0] | (simp only [i64_w, i32_w]; rw [c56b0]) | rw [c56b1] | skip)
              have H' := Aside0.mk H
              clear H
              have hnb82 := NB227_226.out
              have hnc82 := NB226_227.out
              obtain ⟨hcz83_0, hcz83_1, hcz83_2, hcz83_3, hcz83_4⟩ := box5_ BK227.out
              obtain ⟨hfz83_0, hfz83_1, hfz83_2, hfz83_3, hfz83_4⟩ := frz5_ BK227.out
              try go_wp2
              repeat (go_quiet (fail); try go_wp2)
              go_meet
              case rel => exact ⟨_, (false), (by first | rfl | (simp; done) | (simp [*]; done)), H', ⟨by have := HJ2.out; have := HJ12.out; have := HJ18.out; have := HJ49.out; first | omega | exact Nat.le_refl _⟩, ⟨by (with_reducible repeat (first | refine blk_drewN ?_ _ | refine blk_drew ?_ | refine blk_alloc ?_ _)); exact BK226.out⟩, ⟨by (with_reducible repeat (first | refine blk_drewN ?_ _ | refine blk_drew ?_ | refine blk_alloc ?_ _)); exact BK227.out⟩, ⟨by repeat (first | (with_reducible first | exact HB.out | apply below_alloc | apply pw_below_drewN | apply below_drew1 | refine below_set ?_ GE226.out | refine below_set ?_ GE227.out) | exact HB.out)⟩⟩
            case rest =>
             clear HC55
             try clear c54
             obtain ⟨kq, x127_54, rfl, HA, HJ54, BK226, BK227, HB⟩ := hcut
             cases kq with
             | zero => exact absurd HA.out (by simp [ladderbackref26_Type.j5])
             | succ kj54 =>
              have H := HA.out
              clear HA
              simp only [ladderbackref26_Type.j5] at H
              by_cases c84 : x127_54 = true
              ·
               subst c84
               have H1 : (if 0 ≤ a1_2 then (if a1_2 < (l0_0.length : Int) then ((ladderbackref01_Right.f ((rd_T42 l0_0 a1_2).f1)).bind fun t238 => (if t238 = true then (some ((rd_T42 l0_0 a1_2).f1)) else (some 0))) else (none)) else (none)) = some r := by rw [if_pos rfl] at H; exact H
               clear H
               have H := H1
               clear H1
               by_cases c85 : 0 ≤ a1_2
               ·
                rw [if_pos c85] at H
                have c85b0 : decide (0 ≤ a1_2) = true := decide_eq_true c85
                clear c85
                by_cases c86 : a1_2 < (l0_0.length : Int)
                ·
                 rw [if_pos c86] at H
                 have c86b0 : decide (a1_2 < (l0_0.length : Int)) = true := decide_eq_true c86
                 clear c86
                 replace H := Option.bind_eq_some_iff.mp H
                 obtain ⟨t238, A870, H⟩ := H
                 replace H : (if t238 = true then (some ((rd_T42 l0_0 a1_2).f1)) else (some 0)) = some r := H
                 have A87 := Aside0.mk A870
                 clear A870
                 by_cases c88 : t238 = true
                 ·
                  subst c88
                  have H1 : (some ((rd_T42 l0_0 a1_2).f1)) = some r := by rw [if_pos rfl] at H; exact H
                  clear H
                  have H := H1
                  clear H1
                  obtain rfl := Option.some.inj H
                  have hnb89 := NB226_227.out
                  have hnc89 := NB227_226.out
                  obtain ⟨hcz90_0, hcz90_1, hcz90_2, hcz90_3⟩ := box4_ BK226.out
                  obtain ⟨hfz90_0, hfz90_1, hfz90_2, hfz90_3⟩ := frz4_ BK226.out
                  obtain ⟨hcz91_0, hcz91_1, hcz91_2, hcz91_3, hcz91_4⟩ := box5_ BK227.out
                  obtain ⟨hfz91_0, hfz91_1, hfz91_2, hfz91_3, hfz91_4⟩ := frz5_ BK227.out
                  have p237 : 0 ≤ (a1_2 : Int) := of_decide_eq_true (by first | (with_reducible assumption) | assumption)
                  have q237 : a1_2 < (l0_0.length : Int) := of_decide_eq_true (by first | (with_reducible assumption) | assumption)
                  obtain ⟨ad237, e237, hx237_0, hx237_1, hx237_2, hx237_3, hx237_4⟩ := at_T42 HR0_0.out a1_2 p237 q237
                  cases e237
                  replace hx237_0 := (HB.out.cell (World.block_lt_of_cell? w _ hx237_0)).trans hx237_0
                  replace hx237_1 := (HB.out.cell (World.block_lt_of_cell? w _ hx237_1)).trans hx237_1
                  replace hx237_2 := (HB.out.cell (World.block_lt_of_cell? w _ hx237_2)).trans hx237_2
                  replace hx237_3 := (HB.out.cell (World.block_lt_of_cell? w _ hx237_3)).trans hx237_3
                  replace hx237_4 := (HB.out.cell (World.block_lt_of_cell? w _ hx237_4)).trans hx237_4
                  replace p237 := eq_true p237
                  replace q237 := eq_true q237
                  try go_wp2_with (first | ((with_reducible refine gate_callee (f := 66) rfl ?_); refine goesL_ (some 314) rfl rfl Tryd.func66 (by kernel_rfl) rfl #[.int .i64 ((rd_T42 l0_0 a1_2).f1)] rfl (by (try simp only [List.map_toArray, List.map_cons, List.map_nil]); first | done | rfl | (simp only [List.length_drop, List.length_take]; rfl)) ?_; (with_reducible refine (ladderbackref01_Right.calls ((rd_T42 l0_0 a1_2).f1) true _ A87.out).mono ?_); rintro e w' ⟨rfl, ⟨nd, rfl⟩⟩; refine ⟨_, rfl, ?_⟩))
                  repeat (go_quiet (fail); try go_wp2_with (first | ((with_reducible refine gate_callee (f := 66) rfl ?_); refine goesL_ (some 314) rfl rfl Tryd.func66 (by kernel_rfl) rfl #[.int .i64 ((rd_T42 l0_0 a1_2).f1)] rfl (by (try simp only [List.map_toArray, List.map_cons, List.map_nil]); first | done | rfl | (simp only [List.length_drop, List.length_take]; rfl)) ?_; (with_reducible refine (ladderbackref01_Right.calls ((rd_T42 l0_0 a1_2).f1) true _ A87.out).mono ?_); rintro e w' ⟨rfl, ⟨nd, rfl⟩⟩; refine ⟨_, rfl, ?_⟩)))
                  go_ret
                  exact ⟨by first | rfl | (simp [errW_none, errW_some] <;> rfl) | (simp [*, errW_none, errW_some] <;> rfl), by repeat (first | (with_reducible first | exact HB.out | apply below_alloc | apply pw_below_drewN | apply below_drew1 | refine below_set ?_ GE226.out | refine below_set ?_ GE227.out) | exact HB.out)⟩
                 ·
                  replace c88 := Bool.eq_false_iff.mpr c88
                  subst c88
                  have H1 : (some 0) = some r := by rw [if_neg (show ¬ (false = true) by decide)] at H; exact H
                  clear H
                  have H := H1
                  clear H1
                  obtain rfl := Option.some.inj H
                  have hnb92 := NB226_227.out
                  have hnc92 := NB227_226.out
                  obtain ⟨hcz93_0, hcz93_1, hcz93_2, hcz93_3⟩ := box4_ BK226.out
                  obtain ⟨hfz93_0, hfz93_1, hfz93_2, hfz93_3⟩ := frz4_ BK226.out
                  obtain ⟨hcz94_0, hcz94_1, hcz94_2, hcz94_3, hcz94_4⟩ := box5_ BK227.out
                  obtain ⟨hfz94_0, hfz94_1, hfz94_2, hfz94_3, hfz94_4⟩ := frz5_ BK227.out
                  have p237 : 0 ≤ (a1_2 : Int) := of_decide_eq_true (by first | (with_reducible assumption) | assumption)
                  have q237 : a1_2 < (l0_0.length : Int) := of_decide_eq_true (by first | (with_reducible assumption) | assumption)
                  obtain ⟨ad237, e237, hx237_0, hx237_1, hx237_2, hx237_3, hx237_4⟩ := at_T42 HR0_0.out a1_2 p237 q237
                  cases e237
                  replace hx237_0 := (HB.out.cell (World.block_lt_of_cell? w _ hx237_0)).trans hx237_0
                  replace hx237_1 := (HB.out.cell (World.block_lt_of_cell? w _ hx237_1)).trans hx237_1
                  replace hx237_2 := (HB.out.cell (World.block_lt_of_cell? w _ hx237_2)).trans hx237_2
                  replace hx237_3 := (HB.out.cell (World.block_lt_of_cell? w _ hx237_3)).trans hx237_3
                  replace hx237_4 := (HB.out.cell (World.block_lt_of_cell? w _ hx237_4)).trans hx237_4
                  replace p237 := eq_true p237
                  replace q237 := eq_true q237
                  try go_wp2_with (first | ((with_reducible refine gate_callee (f := 66) rfl ?_); refine goesL_ (some 314) rfl rfl Tryd.func66 (by kernel_rfl) rfl #[.int .i64 ((rd_T42 l0_0 a1_2).f1)] rfl (by (try simp only [List.map_toArray, List.map_cons, List.map_nil]); first | done | rfl | (simp only [List.length_drop, List.length_take]; rfl)) ?_; (with_reducible refine (ladderbackref01_Right.calls ((rd_T42 l0_0 a1_2).f1) false _ A87.out).mono ?_); rintro e w' ⟨rfl, ⟨nd, rfl⟩⟩; refine ⟨_, rfl, ?_⟩))
                  repeat (go_quiet (fail); try go_wp2_with (first | ((with_reducible refine gate_callee (f := 66) rfl ?_); refine goesL_ (some 314) rfl rfl Tryd.func66 (by kernel_rfl) rfl #[.int .i64 ((rd_T42 l0_0 a1_2).f1)] rfl (by (try simp only [List.map_toArray, List.map_cons, List.map_nil]); first | done | rfl | (simp only [List.length_drop, List.length_take]; rfl)) ?_; (with_reducible refine (ladderbackref01_Right.calls ((rd_T42 l0_0 a1_2).f1) false _ A87.out).mono ?_); rintro e w' ⟨rfl, ⟨nd, rfl⟩⟩; refine ⟨_, rfl, ?_⟩)))
                  go_ret
                  exact ⟨by first | rfl | (simp [errW_none, errW_some] <;> rfl) | (simp [*, errW_none, errW_some] <;> rfl), by repeat (first | (with_reducible first | exact HB.out | apply below_alloc | apply pw_below_drewN | apply below_drew1 | refine below_set ?_ GE226.out | refine below_set ?_ GE227.out) | exact HB.out)⟩
                ·
                 rw [if_neg c86] at H
                 exact absurd H (by simp)
               ·
                rw [if_neg c85] at H
                exact absurd H (by simp)
              ·
               replace c84 := Bool.eq_false_iff.mpr c84
               subst c84
               have H1 : ((ladderbackref01_Right.f 0).bind fun t239 => (if t239 = true then (some 0) else (some 0))) = some r := by rw [if_neg (show ¬ (false = true) by decide)] at H; exact H
               clear H
               have H := H1
               clear H1
               replace H := Option.bind_eq_some_iff.mp H
               obtain ⟨t239, A950, H⟩ := H
               replace H : (if t239 = true then (some 0) else (some 0)) = some r := H
               have A95 := Aside0.mk A950
               clear A950
               by_cases c96 : t239 = true
               ·
                subst c96
                have H1 : (some 0) = some r := by rw [if_pos rfl] at H; exact H
                clear H
                have H := H1
                clear H1
                obtain rfl := Option.some.inj H
                try go_wp2_with (first | ((with_reducible refine gate_callee (f := 66) rfl ?_); refine goesL_ (some 314) rfl rfl Tryd.func66 (by kernel_rfl) rfl #[.int .i64 0] rfl (by (try simp only [List.map_toArray, List.map_cons, List.map_nil]); first | done | rfl | (simp only [List.length_drop, List.length_take]; rfl)) ?_; (with_reducible refine (ladderbackref01_Right.calls 0 true _ A95.out).mono ?_); rintro e w' ⟨rfl, ⟨nd, rfl⟩⟩; refine ⟨_, rfl, ?_⟩))
                repeat (go_quiet (fail); try go_wp2_with (first | ((with_reducible refine gate_callee (f := 66) rfl ?_); refine goesL_ (some 314) rfl rfl Tryd.func66 (by kernel_rfl) rfl #[.int .i64 0] rfl (by (try simp only [List.map_toArray, List.map_cons, List.map_nil]); first | done | rfl | (simp only [List.length_drop, List.length_take]; rfl)) ?_; (with_reducible refine (ladderbackref01_Right.calls 0 true _ A95.out).mono ?_); rintro e w' ⟨rfl, ⟨nd, rfl⟩⟩; refine ⟨_, rfl, ?_⟩)))
                go_ret
                exact ⟨by first | rfl | (simp [errW_none, errW_some] <;> rfl) | (simp [*, errW_none, errW_some] <;> rfl), by repeat (first | (with_reducible first | exact HB.out | apply below_alloc | apply pw_below_drewN | apply below_drew1 | refine below_set ?_ GE226.out | refine below_set ?_ GE227.out) | exact HB.out)⟩
               ·
                replace c96 := Bool.eq_false_iff.mpr c96
                subst c96
                have H1 : (some 0) = some r := by rw [if_neg (show ¬ (false = true) by decide)] at H; exact H
                clear H
                have H := H1
                clear H1
                obtain rfl := Option.some.inj H
                try go_wp2_with (first | ((with_reducible refine gate_callee (f := 66) rfl ?_); refine goesL_ (some 314) rfl rfl Tryd.func66 (by kernel_rfl) rfl #[.int .i64 0] rfl (by (try simp only [List.map_toArray, List.map_cons, List.map_nil]); first | done | rfl | (simp only [List.length_drop, List.length_take]; rfl)) ?_; (with_reducible refine (ladderbackref01_Right.calls 0 false _ A95.out).mono ?_); rintro e w' ⟨rfl, ⟨nd, rfl⟩⟩; refine ⟨_, rfl, ?_⟩))
                repeat (go_quiet (fail); try go_wp2_with (first | ((with_reducible refine gate_callee (f := 66) rfl ?_); refine goesL_ (some 314) rfl rfl Tryd.func66 (by kernel_rfl) rfl #[.int .i64 0] rfl (by (try simp only [List.map_toArray, List.map_cons, List.map_nil]); first | done | rfl | (simp only [List.length_drop, List.length_take]; rfl)) ?_; (with_reducible refine (ladderbackref01_Right.calls 0 false _ A95.out).mono ?_); rintro e w' ⟨rfl, ⟨nd, rfl⟩⟩; refine ⟨_, rfl, ?_⟩)))
                go_ret
                exact ⟨by first | rfl | (simp [errW_none, errW_some] <;> rfl) | (simp [*, errW_none, errW_some] <;> rfl), by repeat (first | (with_reducible first | exact HB.out | apply below_alloc | apply pw_below_drewN | apply below_drew1 | refine below_set ?_ GE226.out | refine below_set ?_ GE227.out) | exact HB.out)⟩
           ·
            replace c54 := Bool.eq_false_iff.mpr c54
            subst c54
            have H1 : (if a1_0 = 3 then (if (l1_4.length : Int) = 0 then (if a1_1 = 0 then (if a1_3 = 0 then (if a1_2 ≥ 0 then (ladderbackref26_Type.j6 kj49 0 (decide (a1_2 < (l0_3.length : Int))) l0_0 l0_1 l0_2 l0_3 a1_0 a1_1 a1_2 a1_3 l1_4) else (ladderbackref26_Type.j6 kj49 0 false l0_0 l0_1 l0_2 l0_3 a1_0 a1_1 a1_2 a1_3 l1_4)) else (ladderbackref26_Type.j6 kj49 0 false l0_0 l0_1 l0_2 l0_3 a1_0 a1_1 a1_2 a1_3 l1_4)) else (ladderbackref26_Type.j6 kj49 0 false l0_0 l0_1 l0_2 l0_3 a1_0 a1_1 a1_2 a1_3 l1_4)) else (ladderbackref26_Type.j6 kj49 0 false l0_0 l0_1 l0_2 l0_3 a1_0 a1_1 a1_2 a1_3 l1_4)) else (if a1_0 = 5 then (if (l1_4.length : Int) = 0 then (if a1_1 = 0 then (if a1_2 ≥ 0 then (ladderbackref26_Type.j7 kj49 0 (decide (a1_2 < (l0_1.length : Int))) l0_0 l0_1 l0_2 l0_3 a1_0 a1_1 a1_2 a1_3 l1_4) else (ladderbackref26_Type.j7 kj49 0 false l0_0 l0_1 l0_2 l0_3 a1_0 a1_1 a1_2 a1_3 l1_4)) else (ladderbackref26_Type.j7 kj49 0 false l0_0 l0_1 l0_2 l0_3 a1_0 a1_1 a1_2 a1_3 l1_4)) else (ladderbackref26_Type.j7 kj49 0 false l0_0 l0_1 l0_2 l0_3 a1_0 a1_1 a1_2 a1_3 l1_4)) else (if a1_0 = 6 then (if (l1_4.length : Int) = 1 then (if a1_1 = 0 then (if a1_2 = 0 then (if a1_3 = 13 then (ladderbackref26_Type.j9 kj49 x6_2 0 true a1_0 a1_1 a1_2 a1_3 l1_4) else (ladderbackref26_Type.j9 kj49 x6_2 0 (a1_3 == 17) a1_0 a1_1 a1_2 a1_3 l1_4)) else (ladderbackref26_Type.j9 kj49 x6_2 0 false a1_0 a1_1 a1_2 a1_3 l1_4)) else (ladderbackref26_Type.j9 kj49 x6_2 0 false a1_0 a1_1 a1_2 a1_3 l1_4)) else (ladderbackref26_Type.j9 kj49 x6_2 0 false a1_0 a1_1 a1_2 a1_3 l1_4)) else (if a1_0 = 7 then (if (l1_4.length : Int) = 2 then (if a1_1 = 0 then (if a1_2 = 0 then ((ladderbackref07_Binary.f a1_3).bind fun t258 => (if t258 = true then (if x7_12 = x6_2 then (if a1_3 = 18 then (if x7_12 = 2 then (ladderbackref26_Type.j10 kj49 x6_2 0 true a1_0 a1_1 a1_2 a1_3 l1_4) else (ladderbackref26_Type.j10 kj49 x6_2 0 false a1_0 a1_1 a1_2 a1_3 l1_4)) else (if a1_3 = 19 then (if x7_12 = 2 then (ladderbackref26_Type.j10 kj49 x6_2 0 (a1_3 == 19) a1_0 a1_1 a1_2 a1_3 l1_4) else (ladderbackref26_Type.j10 kj49 x6_2 0 false a1_0 a1_1 a1_2 a1_3 l1_4)) else (ladderbackref26_Type.j10 kj49 x6_2 0 true a1_0 a1_1 a1_2 a1_3 l1_4))) else (if x7_12 = 2 then (if a1_3 = 18 then (ladderbackref26_Type.j10 kj49 x6_2 0 true a1_0 a1_1 a1_2 a1_3 l1_4) else (ladderbackref26_Type.j10 kj49 x6_2 0 (a1_3 == 19) a1_0 a1_1 a1_2 a1_3 l1_4)) else (ladderbackref26_Type.j10 kj49 x6_2 0 false a1_0 a1_1 a1_2 a1_3 l1_4))) else (ladderbackref26_Type.j10 kj49 x6_2 0 false a1_0 a1_1 a1_2 a1_3 l1_4))) else (ladderbackref26_Type.j10 kj49 x6_2 0 false a1_0 a1_1 a1_2 a1_3 l1_4)) else (ladderbackref26_Type.j10 kj49 x6_2 0 false a1_0 a1_1 a1_2 a1_3 l1_4)) else (ladderbackref26_Type.j10 kj49 x6_2 0 false a1_0 a1_1 a1_2 a1_3 l1_4)) else (if a1_0 = 8 then (if (l1_4.length : Int) = 1 then (if a1_2 = 0 then (ladderbackref26_Type.j11 kj49 0 (a1_3 == 0) a1_0 a1_1 a1_2 a1_3 l1_4) else (ladderbackref26_Type.j11 kj49 0 false a1_0 a1_1 a1_2 a1_3 l1_4)) else (ladderbackref26_Type.j11 kj49 0 false a1_0 a1_1 a1_2 a1_3 l1_4)) else ((ladderbackref01_Right.f 0).bind fun t264 => (if t264 = true then (some 0) else (some 0)))))))) = some r := by rw [if_neg (show ¬ (false = true) by decide)] at H; exact H
            clear H
            have H := H1
            clear H1
            by_cases c97 : a1_0 = 3
            ·
             rw [if_pos c97] at H
             have c97b0 : (a1_0 == 3) = true := beq_iff_eq.mpr c97
             have c97b1 : (a1_0 != 3) = false := bne_eq_false_iff_eq.mpr c97
             clear c97
             have HC98 := Aside0.mk H
             clear H
             go_upto_region 20 with (fail)
             repeat (go_quiet (fail); go_upto_region 20 with (fail))
             go_cut [161] from 128 to 161 (fun v161 wc => ∃ (kq : Nat) (x161_97 : Bool), v161 = .bool x161_97 ∧ Aside0 (ladderbackref26_Type.j6 kq 0 x161_97 l0_0 l0_1 l0_2 l0_3 a1_0 a1_1 a1_2 a1_3 l1_4 = some r) ∧ Aside0 (kq ≤ kj49) ∧ Aside0 (wc.heap[gb226]? = some (.cells #[(.slice A0_0 l0_0.length c0_0), (.slice A0_1 l0_1.length c0_1), (.slice A0_2 l0_2.length c0_2), (.slice A0_3 l0_3.length c0_3)] 37 (0, 0))) ∧ Aside0 (wc.heap[gb227]? = some (.cells #[.int .i64 a1_0, .int .i64 a1_1, .int .i64 a1_2, .int .i64 a1_3, (.slice A1_4 l1_4.length c1_4)] 30 (0, 0))) ∧ Aside0 (Below w.heap.size w wc))
             case first =>
              have H := HC98.out
              clear HC98
              by_cases c99 : (l1_4.length : Int) = 0
              ·
               rw [if_pos c99] at H
               have c99b0 : ((l1_4.length : Int) == 0) = true := beq_iff_eq.mpr c99
               have c99b1 : ((l1_4.length : Int) != 0) = false := bne_eq_false_iff_eq.mpr c99
               clear c99
               (first | rw [c99b0] | (simp only [i64_w, i32_w]; rw [c99b0]) | rw [c99b1] | skip)
               by_cases c100 : a1_1 = 0
               ·
                rw [if_pos c100] at H
                have c100b0 : (a1_1 == 0) = true := beq_iff_eq.mpr c100
                have c100b1 : (a1_1 != 0) = false := bne_eq_false_iff_eq.mpr c100
                clear c100
                by_cases c101 : a1_3 = 0
                ·
                 rw [if_pos c101] at H
                 have c101b0 : (a1_3 == 0) = true := beq_iff_eq.mpr c101
                 have c101b1 : (a1_3 != 0) = false := bne_eq_false_iff_eq.mpr c101
                 clear c101
                 by_cases c102 : a1_2 ≥ 0
                 ·
                  rw [if_pos c102] at H
                  have c102b0 : decide (0 ≤ a1_2) = true := decide_eq_true c102
                  clear c102
                  have H' := Aside0.mk H
                  clear H
                  have hnb103 := NB227_226.out
                  have hnc103 := NB226_227.out
                  obtain ⟨hcz104_0, hcz104_1, hcz104_2, hcz104_3, hcz104_4⟩ := box5_ BK227.out
                  obtain ⟨hfz104_0, hfz104_1, hfz104_2, hfz104_3, hfz104_4⟩ := frz5_ BK227.out
                  obtain ⟨hcz105_0, hcz105_1, hcz105_2, hcz105_3⟩ := box4_ BK226.out
                  obtain ⟨hfz105_0, hfz105_1, hfz105_2, hfz105_3⟩ := frz4_ BK226.out
                  try go_wp2
                  repeat (go_quiet (fail); try go_wp2)
                  go_meet
                  case rel => exact ⟨_, (decide (a1_2 < (l0_3.length : Int))), (by first | rfl | (simp; done) | (simp [*]; done)), H', ⟨by have := HJ2.out; have := HJ12.out; have := HJ18.out; have := HJ49.out; first | omega | exact Nat.le_refl _⟩, ⟨by (with_reducible repeat (first | refine blk_drewN ?_ _ | refine blk_drew ?_ | refine blk_alloc ?_ _)); exact BK226.out⟩, ⟨by (with_reducible repeat (first | refine blk_drewN ?_ _ | refine blk_drew ?_ | refine blk_alloc ?_ _)); exact BK227.out⟩, ⟨by repeat (first | (with_reducible first | exact HB.out | apply below_alloc | apply pw_below_drewN | apply below_drew1 | refine below_set ?_ GE226.out | refine below_set ?_ GE227.out) | exact HB.out)⟩⟩
                 ·
                  rw [if_neg c102] at H
                  have c102b0 : decide (0 ≤ a1_2) = false := decide_eq_false c102
                  clear c102
                  have H' := Aside0.mk H
                  clear H
                  have hnb106 := NB227_226.out
                  have hnc106 := NB226_227.out
                  obtain ⟨hcz107_0, hcz107_1, hcz107_2, hcz107_3, hcz107_4⟩ := box5_ BK227.out
                  obtain ⟨hfz107_0, hfz107_1, hfz107_2, hfz107_3, hfz107_4⟩ := frz5_ BK227.out
                  try go_wp2
                  repeat (go_quiet (fail); try go_wp2)
                  go_meet
                  case rel => exact ⟨_, (false), (by first | rfl | (simp; done) | (simp [*]; done)), H', ⟨by have := HJ2.out; have := HJ12.out; have := HJ18.out; have := HJ49.out; first | omega | exact Nat.le_refl _⟩, ⟨by (with_reducible repeat (first | refine blk_drewN ?_ _ | refine blk_drew ?_ | refine blk_alloc ?_ _)); exact BK226.out⟩, ⟨by (with_reducible repeat (first | refine blk_drewN ?_ _ | refine blk_drew ?_ | refine blk_alloc ?_ _)); exact BK227.out⟩, ⟨by repeat (first | (with_reducible first | exact HB.out | apply below_alloc | apply pw_below_drewN | apply below_drew1 | refine below_set ?_ GE226.out | refine below_set ?_ GE227.out) | exact HB.out)⟩⟩
                ·
                 rw [if_neg c101] at H
                 have c101b0 : (a1_3 == 0) = false := beq_eq_false_iff_ne.mpr c101
                 have c101b1 : (a1_3 != 0) = true := bne_iff_ne.mpr c101
                 have H' := Aside0.mk H
                 clear H
                 have hnb108 := NB227_226.out
                 have hnc108 := NB226_227.out
                 obtain ⟨hcz109_0, hcz109_1, hcz109_2, hcz109_3, hcz109_4⟩ := box5_ BK227.out
                 obtain ⟨hfz109_0, hfz109_1, hfz109_2, hfz109_3, hfz109_4⟩ := frz5_ BK227.out
                 try go_wp2
                 repeat (go_quiet (fail); try go_wp2)
                 go_meet
                 case rel => exact ⟨_, (false), (by first | rfl | (simp; done) | (simp [*]; done)), H', ⟨by have := HJ2.out; have := HJ12.out; have := HJ18.out; have := HJ49.out; first | omega | exact Nat.le_refl _⟩, ⟨by (with_reducible repeat (first | refine blk_drewN ?_ _ | refine blk_drew ?_ | refine blk_alloc ?_ _)); exact BK226.out⟩, ⟨by (with_reducible repeat (first | refine blk_drewN ?_ _ | refine blk_drew ?_ | refine blk_alloc ?_ _)); exact BK227.out⟩, ⟨by repeat (first | (with_reducible first | exact HB.out | apply below_alloc | apply pw_below_drewN | apply below_drew1 | refine below_set ?_ GE226.out | refine below_set ?_ GE227.out) | exact HB.out)⟩⟩
               ·
                rw [if_neg c100] at H
                have c100b0 : (a1_1 == 0) = false := beq_eq_false_iff_ne.mpr c100
                have c100b1 : (a1_1 != 0) = true := bne_iff_ne.mpr c100
                have H' := Aside0.mk H
                clear H
                have hnb110 := NB227_226.out
                have hnc110 := NB226_227.out
                obtain ⟨hcz111_0, hcz111_1, hcz111_2, hcz111_3, hcz111_4⟩ := box5_ BK227.out
                obtain ⟨hfz111_0, hfz111_1, hfz111_2, hfz111_3, hfz111_4⟩ := frz5_ BK227.out
                try go_wp2
                repeat (go_quiet (fail); try go_wp2)
                go_meet
                case rel => exact ⟨_, (false), (by first | rfl | (simp; done) | (simp [*]; done)), H', ⟨by have := HJ2.out; have := HJ12.out; have := HJ18.out; have := HJ49.out; first | omega | exact Nat.le_refl _⟩, ⟨by (with_reducible repeat (first | refine blk_drewN ?_ _ | refine blk_drew ?_ | refine blk_alloc ?_ _)); exact BK226.out⟩, ⟨by (with_reducible repeat (first | refine blk_drewN ?_ _ | refine blk_drew ?_ | refine blk_alloc ?_ _)); exact BK227.out⟩, ⟨by repeat (first | (with_reducible first | exact HB.out | apply below_alloc | apply pw_below_drewN | apply below_drew1 | refine below_set ?_ GE226.out | refine below_set ?_ GE227.out) | exact HB.out)⟩⟩
              ·
               rw [if_neg c99] at H
               have c99b0 : ((l1_4.length : Int) == 0) = false := beq_eq_false_iff_ne.mpr c99
               have c99b1 : ((l1_4.length : Int) != 0) = true := bne_iff_ne.mpr c99
               have c99b2 : ¬ (l1_4 = []) := fun h_ => c99 (by rw [h_]; rfl)
               (first | rw [c99b0] | (simp only [i64_w, i32_w]; rw [c99b0]) | rw [c99b1] | skip)
               have H' := Aside0.mk H
               clear H
               try go_wp2
               repeat (go_quiet (fail); try go_wp2)
               go_meet
               case rel => exact ⟨_, (false), (by first | rfl | (simp; done) | (simp [*]; done)), H', ⟨by have := HJ2.out; have := HJ12.out; have := HJ18.out; have := HJ49.out; first | omega | exact Nat.le_refl _⟩, ⟨by (with_reducible repeat (first | refine blk_drewN ?_ _ | refine blk_drew ?_ | refine blk_alloc ?_ _)); exact BK226.out⟩, ⟨by (with_reducible repeat (first | refine blk_drewN ?_ _ | refine blk_drew ?_ | refine blk_alloc ?_ _)); exact BK227.out⟩, ⟨by repeat (first | (with_reducible first | exact HB.out | apply below_alloc | apply pw_below_drewN | apply below_drew1 | refine below_set ?_ GE226.out | refine below_set ?_ GE227.out) | exact HB.out)⟩⟩
             case rest =>
              clear HC98
              (try clear c54); (try clear c97); (try clear c97b0); (try clear c97b1)
              obtain ⟨kq, x161_97, rfl, HA, HJ97, BK226, BK227, HB⟩ := hcut
              cases kq with
              | zero => exact absurd HA.out (by simp [ladderbackref26_Type.j6])
              | succ kj97 =>
               have H := HA.out
               clear HA
               simp only [ladderbackref26_Type.j6] at H
               by_cases c112 : x161_97 = true
               ·
                subst c112
                have H1 : (if 0 ≤ a1_2 then (if a1_2 < (l0_3.length : Int) then ((ladderbackref01_Right.f (rd l0_3 a1_2)).bind fun t241 => (if t241 = true then (some (rd l0_3 a1_2)) else (some 0))) else (none)) else (none)) = some r := by rw [if_pos rfl] at H; exact H
                clear H
                have H := H1
                clear H1
                by_cases c113 : 0 ≤ a1_2
                ·
                 rw [if_pos c113] at H
                 have c113b0 : decide (0 ≤ a1_2) = true := decide_eq_true c113
                 clear c113
                 by_cases c114 : a1_2 < (l0_3.length : Int)
                 ·
                  rw [if_pos c114] at H
                  have c114b0 : decide (a1_2 < (l0_3.length : Int)) = true := decide_eq_true c114
                  clear c114
                  replace H := Option.bind_eq_some_iff.mp H
                  obtain ⟨t241, A1150, H⟩ := H
                  replace H : (if t241 = true then (some (rd l0_3 a1_2)) else (some 0)) = some r := H
                  have A115 := Aside0.mk A1150
                  clear A1150
                  by_cases c116 : t241 = true
                  ·
                   subst c116
                   have H1 : (some (rd l0_3 a1_2)) = some r := by rw [if_pos rfl] at H; exact H
                   clear H
                   have H := H1
                   clear H1
                   obtain rfl := Option.some.inj H
                   have hnb117 := NB226_227.out
                   have hnc117 := NB227_226.out
                   obtain ⟨hcz118_0, hcz118_1, hcz118_2, hcz118_3⟩ := box4_ BK226.out
                   obtain ⟨hfz118_0, hfz118_1, hfz118_2, hfz118_3⟩ := frz4_ BK226.out
                   obtain ⟨hcz119_0, hcz119_1, hcz119_2, hcz119_3, hcz119_4⟩ := box5_ BK227.out
                   obtain ⟨hfz119_0, hfz119_1, hfz119_2, hfz119_3, hfz119_4⟩ := frz5_ BK227.out
                   have p240 : 0 ≤ (a1_2 : Int) := of_decide_eq_true (by first | (with_reducible assumption) | assumption)
                   have q240 : a1_2 < (l0_3.length : Int) := of_decide_eq_true (by first | (with_reducible assumption) | assumption)
                   obtain ⟨ad240, e240, hx240_0⟩ := Kd.at_int HR0_3.out a1_2 p240 q240
                   cases e240
                   replace hx240_0 := (HB.out.cell (World.block_lt_of_cell? w _ hx240_0)).trans hx240_0
                   replace p240 := eq_true p240
                   replace q240 := eq_true q240
                   try go_wp2_with (first | ((with_reducible refine gate_callee (f := 66) rfl ?_); refine goesL_ (some 314) rfl rfl Tryd.func66 (by kernel_rfl) rfl #[.int .i64 (rd l0_3 a1_2)] rfl (by (try simp only [List.map_toArray, List.map_cons, List.map_nil]); first | done | rfl | (simp only [List.length_drop, List.length_take]; rfl)) ?_; (with_reducible refine (ladderbackref01_Right.calls (rd l0_3 a1_2) true _ A115.out).mono ?_); rintro e w' ⟨rfl, ⟨nd, rfl⟩⟩; refine ⟨_, rfl, ?_⟩))
                   repeat (go_quiet (fail); try go_wp2_with (first | ((with_reducible refine gate_callee (f := 66) rfl ?_); refine goesL_ (some 314) rfl rfl Tryd.func66 (by kernel_rfl) rfl #[.int .i64 (rd l0_3 a1_2)] rfl (by (try simp only [List.map_toArray, List.map_cons, List.map_nil]); first | done | rfl | (simp only [List.length_drop, List.length_take]; rfl)) ?_; (with_reducible refine (ladderbackref01_Right.calls (rd l0_3 a1_2) true _ A115.out).mono ?_); rintro e w' ⟨rfl, ⟨nd, rfl⟩⟩; refine ⟨_, rfl, ?_⟩)))
                   go_ret
                   exact ⟨by first | rfl | (simp [errW_none, errW_some] <;> rfl) | (simp [*, errW_none, errW_some] <;> rfl), by repeat (first | (with_reducible first | exact HB.out | apply below_alloc | apply pw_below_drewN | apply below_drew1 | refine below_set ?_ GE226.out | refine below_set ?_ GE227.out) | exact HB.out)⟩
                  ·
                   replace c116 := Bool.eq_false_iff.mpr c116
                   subst c116
                   have H1 : (some 0) = some r := by rw [if_neg (show ¬ (false = true) by decide)] at H; exact H
                   clear H
                   have H := H1
                   clear H1
                   obtain rfl := Option.some.inj H
                   have hnb120 := NB226_227.out
                   have hnc120 := NB227_226.out
                   obtain ⟨hcz121_0, hcz121_1, hcz121_2, hcz121_3⟩ := box4_ BK226.out
                   obtain ⟨hfz121_0, hfz121_1, hfz121_2, hfz121_3⟩ := frz4_ BK226.out
                   obtain ⟨hcz122_0, hcz122_1, hcz122_2, hcz122_3, hcz122_4⟩ := box5_ BK227.out
                   obtain ⟨hfz122_0, hfz122_1, hfz122_2, hfz122_3, hfz122_4⟩ := frz5_ BK227.out
                   have p240 : 0 ≤ (a1_2 : Int) := of_decide_eq_true (by first | (with_reducible assumption) | assumption)
                   have q240 : a1_2 < (l0_3.length : Int) := of_decide_eq_true (by first | (with_reducible assumption) | assumption)
                   obtain ⟨ad240, e240, hx240_0⟩ := Kd.at_int HR0_3.out a1_2 p240 q240
                   cases e240
                   replace hx240_0 := (HB.out.cell (World.block_lt_of_cell? w _ hx240_0)).trans hx240_0
                   replace p240 := eq_true p240
                   replace q240 := eq_true q240
                   try go_wp2_with (first | ((with_reducible refine gate_callee (f := 66) rfl ?_); refine goesL_ (some 314) rfl rfl Tryd.func66 (by kernel_rfl) rfl #[.int .i64 (rd l0_3 a1_2)] rfl (by (try simp only [List.map_toArray, List.map_cons, List.map_nil]); first | done | rfl | (simp only [List.length_drop, List.length_take]; rfl)) ?_; (with_reducible refine (ladderbackref01_Right.calls (rd l0_3 a1_2) false _ A115.out).mono ?_); rintro e w' ⟨rfl, ⟨nd, rfl⟩⟩; refine ⟨_, rfl, ?_⟩))
                   repeat (go_quiet (fail); try go_wp2_with (first | ((with_reducible refine gate_callee (f := 66) rfl ?_); refine goesL_ (some 314) rfl rfl Tryd.func66 (by kernel_rfl) rfl #[.int .i64 (rd l0_3 a1_2)] rfl (by (try simp only [List.map_toArray, List.map_cons, List.map_nil]); first | done | rfl | (simp only [List.length_drop, List.length_take]; rfl)) ?_; (with_reducible refine (ladderbackref01_Right.calls (rd l0_3 a1_2) false _ A115.out).mono ?_); rintro e w' ⟨rfl, ⟨nd, rfl⟩⟩; refine ⟨_, rfl, ?_⟩)))
                   go_ret
                   exact ⟨by first | rfl | (simp [errW_none, errW_some] <;> rfl) | (simp [*, errW_none, errW_some] <;> rfl), by repeat (first | (with_reducible first | exact HB.out | apply below_alloc | apply pw_below_drewN | apply below_drew1 | refine below_set ?_ GE226.out | refine below_set ?_ GE227.out) | exact HB.out)⟩
                 ·
                  rw [if_neg c114] at H
                  exact absurd H (by simp)
                ·
                 rw [if_neg c113] at H
                 exact absurd H (by simp)
               ·
                replace c112 := Bool.eq_false_iff.mpr c112
                subst c112
                have H1 : ((ladderbackref01_Right.f 0).bind fun t242 => (if t242 = true then (some 0) else (some 0))) = some r := by rw [if_neg (show ¬ (false = true) by decide)] at H; exact H
                clear H
                have H := H1
                clear H1
                replace H := Option.bind_eq_some_iff.mp H
                obtain ⟨t242, A1230, H⟩ := H
                replace H : (if t242 = true then (some 0) else (some 0)) = some r := H
                have A123 := Aside0.mk A1230
                clear A1230
                by_cases c124 : t242 = true
                ·
                 subst c124
                 have H1 : (some 0) = some r := by rw [if_pos rfl] at H; exact H
                 clear H
                 have H := H1
                 clear H1
                 obtain rfl := Option.some.inj H
                 try go_wp2_with (first | ((with_reducible refine gate_callee (f := 66) rfl ?_); refine goesL_ (some 314) rfl rfl Tryd.func66 (by kernel_rfl) rfl #[.int .i64 0] rfl (by (try simp only [List.map_toArray, List.map_cons, List.map_nil]); first | done | rfl | (simp only [List.length_drop, List.length_take]; rfl)) ?_; (with_reducible refine (ladderbackref01_Right.calls 0 true _ A123.out).mono ?_); rintro e w' ⟨rfl, ⟨nd, rfl⟩⟩; refine ⟨_, rfl, ?_⟩))
                 repeat (go_quiet (fail); try go_wp2_with (first | ((with_reducible refine gate_callee (f := 66) rfl ?_); refine goesL_ (some 314) rfl rfl Tryd.func66 (by kernel_rfl) rfl #[.int .i64 0] rfl (by (try simp only [List.map_toArray, List.map_cons, List.map_nil]); first | done | rfl | (simp only [List.length_drop, List.length_take]; rfl)) ?_; (with_reducible refine (ladderbackref01_Right.calls 0 true _ A123.out).mono ?_); rintro e w' ⟨rfl, ⟨nd, rfl⟩⟩; refine ⟨_, rfl, ?_⟩)))
                 go_ret
                 exact ⟨by first | rfl | (simp [errW_none, errW_some] <;> rfl) | (simp [*, errW_none, errW_some] <;> rfl), by repeat (first | (with_reducible first | exact HB.out | apply below_alloc | apply pw_below_drewN | apply below_drew1 | refine below_set ?_ GE226.out | refine below_set ?_ GE227.out) | exact HB.out)⟩
                ·
                 replace c124 := Bool.eq_false_iff.mpr c124
                 subst c124
                 have H1 : (some 0) = some r := by rw [if_neg (show ¬ (false = true) by decide)] at H; exact H
                 clear H
                 have H := H1
                 clear H1
                 obtain rfl := Option.some.inj H
                 try go_wp2_with (first | ((with_reducible refine gate_callee (f := 66) rfl ?_); refine goesL_ (some 314) rfl rfl Tryd.func66 (by kernel_rfl) rfl #[.int .i64 0] rfl (by (try simp only [List.map_toArray, List.map_cons, List.map_nil]); first | done | rfl | (simp only [List.length_drop, List.length_take]; rfl)) ?_; (with_reducible refine (ladderbackref01_Right.calls 0 false _ A123.out).mono ?_); rintro e w' ⟨rfl, ⟨nd, rfl⟩⟩; refine ⟨_, rfl, ?_⟩))
                 repeat (go_quiet (fail); try go_wp2_with (first | ((with_reducible refine gate_callee (f := 66) rfl ?_); refine goesL_ (some 314) rfl rfl Tryd.func66 (by kernel_rfl) rfl #[.int .i64 0] rfl (by (try simp only [List.map_toArray, List.map_cons, List.map_nil]); first | done | rfl | (simp only [List.length_drop, List.length_take]; rfl)) ?_; (with_reducible refine (ladderbackref01_Right.calls 0 false _ A123.out).mono ?_); rintro e w' ⟨rfl, ⟨nd, rfl⟩⟩; refine ⟨_, rfl, ?_⟩)))
                 go_ret
                 exact ⟨by first | rfl | (simp [errW_none, errW_some] <;> rfl) | (simp [*, errW_none, errW_some] <;> rfl), by repeat (first | (with_reducible first | exact HB.out | apply below_alloc | apply pw_below_drewN | apply below_drew1 | refine below_set ?_ GE226.out | refine below_set ?_ GE227.out) | exact HB.out)⟩
            ·
             rw [if_neg c97] at H
             have c97b0 : (a1_0 == 3) = false := beq_eq_false_iff_ne.mpr c97
             have c97b1 : (a1_0 != 3) = true := bne_iff_ne.mpr c97
             by_cases c125 : a1_0 = 5
             ·
              rw [if_pos c125] at H
              have c125b0 : (a1_0 == 5) = true := beq_iff_eq.mpr c125
              have c125b1 : (a1_0 != 5) = false := bne_eq_false_iff_eq.mpr c125
              clear c125
              have HC126 := Aside0.mk H
              clear H
              go_upto_region 23 with (fail)
              repeat (go_quiet (fail); go_upto_region 23 with (fail))
              go_cut [189] from 162 to 189 (fun v189 wc => ∃ (kq : Nat) (x189_125 : Bool), v189 = .bool x189_125 ∧ Aside0 (ladderbackref26_Type.j7 kq 0 x189_125 l0_0 l0_1 l0_2 l0_3 a1_0 a1_1 a1_2 a1_3 l1_4 = some r) ∧ Aside0 (kq ≤ kj49) ∧ Aside0 (wc.heap[gb226]? = some (.cells #[(.slice A0_0 l0_0.length c0_0), (.slice A0_1 l0_1.length c0_1), (.slice A0_2 l0_2.length c0_2), (.slice A0_3 l0_3.length c0_3)] 37 (0, 0))) ∧ Aside0 (wc.heap[gb227]? = some (.cells #[.int .i64 a1_0, .int .i64 a1_1, .int .i64 a1_2, .int .i64 a1_3, (.slice A1_4 l1_4.length c1_4)] 30 (0, 0))) ∧ Aside0 (Below w.heap.size w wc))
              case first =>
               have H := HC126.out
               clear HC126
               by_cases c127 : (l1_4.length : Int) = 0
               ·
                rw [if_pos c127] at H
                have c127b0 : ((l1_4.length : Int) == 0) = true := beq_iff_eq.mpr c127
                have c127b1 : ((l1_4.length : Int) != 0) = false := bne_eq_false_iff_eq.mpr c127
                clear c127
                (first | rw [c127b0] | (simp only [i64_w, i32_w]; rw [c127b0]) | rw [c127b1] | skip)
                by_cases c128 : a1_1 = 0
                ·
                 rw [if_pos c128] at H
                 have c128b0 : (a1_1 == 0) = true := beq_iff_eq.mpr c128
                 have c128b1 : (a1_1 != 0) = false := bne_eq_false_iff_eq.mpr c128
                 clear c128
                 by_cases c129 : a1_2 ≥ 0
                 ·
                  rw [if_pos c129] at H
                  have c129b0 : decide (0 ≤ a1_2) = true := decide_eq_true c129
                  clear c129
                  have H' := Aside0.mk H
                  clear H
                  have hnb130 := NB227_226.out
                  have hnc130 := NB226_227.out
                  obtain ⟨hcz131_0, hcz131_1, hcz131_2, hcz131_3, hcz131_4⟩ := box5_ BK227.out
                  obtain ⟨hfz131_0, hfz131_1, hfz131_2, hfz131_3, hfz131_4⟩ := frz5_ BK227.out
                  obtain ⟨hcz132_0, hcz132_1, hcz132_2, hcz132_3⟩ := box4_ BK226.out
                  obtain ⟨hfz132_0, hfz132_1, hfz132_2, hfz132_3⟩ := frz4_ BK226.out
                  try go_wp2
                  repeat (go_quiet (fail); try go_wp2)
                  go_meet
                  case rel => exact ⟨_, (decide (a1_2 < (l0_1.length : Int))), (by first | rfl | (simp; done) | (simp [*]; done)), H', ⟨by have := HJ2.out; have := HJ12.out; have := HJ18.out; have := HJ49.out; first | omega | exact Nat.le_refl _⟩, ⟨by (with_reducible repeat (first | refine blk_drewN ?_ _ | refine blk_drew ?_ | refine blk_alloc ?_ _)); exact BK226.out⟩, ⟨by (with_reducible repeat (first | refine blk_drewN ?_ _ | refine blk_drew ?_ | refine blk_alloc ?_ _)); exact BK227.out⟩, ⟨by repeat (first | (with_reducible first | exact HB.out | apply below_alloc | apply pw_below_drewN | apply below_drew1 | refine below_set ?_ GE226.out | refine below_set ?_ GE227.out) | exact HB.out)⟩⟩
                 ·
                  rw [if_neg c129] at H
                  have c129b0 : decide (0 ≤ a1_2) = false := decide_eq_false c129
                  clear c129
                  have H' := Aside0.mk H
                  clear H
                  have hnb133 := NB227_226.out
                  have hnc133 := NB226_227.out
                  obtain ⟨hcz134_0, hcz134_1, hcz134_2, hcz134_3, hcz134_4⟩ := box5_ BK227.out
                  obtain ⟨hfz134_0, hfz134_1, hfz134_2, hfz134_3, hfz134_4⟩ := frz5_ BK227.out
                  try go_wp2
                  repeat (go_quiet (fail); try go_wp2)
                  go_meet
                  case rel => exact ⟨_, (false), (by first | rfl | (simp; done) | (simp [*]; done)), H', ⟨by have := HJ2.out; have := HJ12.out; have := HJ18.out; have := HJ49.out; first | omega | exact Nat.le_refl _⟩, ⟨by (with_reducible repeat (first | refine blk_drewN ?_ _ | refine blk_drew ?_ | refine blk_alloc ?_ _)); exact BK226.out⟩, ⟨by (with_reducible repeat (first | refine blk_drewN ?_ _ | refine blk_drew ?_ | refine blk_alloc ?_ _)); exact BK227.out⟩, ⟨by repeat (first | (with_reducible first | exact HB.out | apply below_alloc | apply pw_below_drewN | apply below_drew1 | refine below_set ?_ GE226.out | refine below_set ?_ GE227.out) | exact HB.out)⟩⟩
                ·
                 rw [if_neg c128] at H
                 have c128b0 : (a1_1 == 0) = false := beq_eq_false_iff_ne.mpr c128
                 have c128b1 : (a1_1 != 0) = true := bne_iff_ne.mpr c128
                 have H' := Aside0.mk H
                 clear H
                 have hnb135 := NB227_226.out
                 have hnc135 := NB226_227.out
                 obtain ⟨hcz136_0, hcz136_1, hcz136_2, hcz136_3, hcz136_4⟩ := box5_ BK227.out
                 obtain ⟨hfz136_0, hfz136_1, hfz136_2, hfz136_3, hfz136_4⟩ := frz5_ BK227.out
                 try go_wp2
                 repeat (go_quiet (fail); try go_wp2)
                 go_meet
                 case rel => exact ⟨_, (false), (by first | rfl | (simp; done) | (simp [*]; done)), H', ⟨by have := HJ2.out; have := HJ12.out; have := HJ18.out; have := HJ49.out; first | omega | exact Nat.le_refl _⟩, ⟨by (with_reducible repeat (first | refine blk_drewN ?_ _ | refine blk_drew ?_ | refine blk_alloc ?_ _)); exact BK226.out⟩, ⟨by (with_reducible repeat (first | refine blk_drewN ?_ _ | refine blk_drew ?_ | refine blk_alloc ?_ _)); exact BK227.out⟩, ⟨by repeat (first | (with_reducible first | exact HB.out | apply below_alloc | apply pw_below_drewN | apply below_drew1 | refine below_set ?_ GE226.out | refine below_set ?_ GE227.out) | exact HB.out)⟩⟩
               ·
                rw [if_neg c127] at H
                have c127b0 : ((l1_4.length : Int) == 0) = false := beq_eq_false_iff_ne.mpr c127
                have c127b1 : ((l1_4.length : Int) != 0) = true := bne_iff_ne.mpr c127
                have c127b2 : ¬ (l1_4 = []) := fun h_ => c127 (by rw [h_]; rfl)
                (first | rw [c127b0] | (simp only [i64_w, i32_w]; rw [c127b0]) | rw [c127b1] | skip)
                have H' := Aside0.mk H
                clear H
                try go_wp2
                repeat (go_quiet (fail); try go_wp2)
                go_meet
                case rel => exact ⟨_, (false), (by first | rfl | (simp; done) | (simp [*]; done)), H', ⟨by have := HJ2.out; have := HJ12.out; have := HJ18.out; have := HJ49.out; first | omega | exact Nat.le_refl _⟩, ⟨by (with_reducible repeat (first | refine blk_drewN ?_ _ | refine blk_drew ?_ | refine blk_alloc ?_ _)); exact BK226.out⟩, ⟨by (with_reducible repeat (first | refine blk_drewN ?_ _ | refine blk_drew ?_ | refine blk_alloc ?_ _)); exact BK227.out⟩, ⟨by repeat (first | (with_reducible first | exact HB.out | apply below_alloc | apply pw_below_drewN | apply below_drew1 | refine below_set ?_ GE226.out | refine below_set ?_ GE227.out) | exact HB.out)⟩⟩
              case rest =>
               clear HC126
               (try clear c97); (try clear c97b0); (try clear c97b1); (try clear c125); (try clear c125b0); (try clear c125b1)
               obtain ⟨kq, x189_125, rfl, HA, HJ125, BK226, BK227, HB⟩ := hcut
               cases kq with
               | zero => exact absurd HA.out (by simp [ladderbackref26_Type.j7])
               | succ kj125 =>
                have H := HA.out
                clear HA
                simp only [ladderbackref26_Type.j7] at H
                by_cases c137 : x189_125 = true
                ·
                 subst c137
                 have H1 : (if 0 ≤ a1_2 then (if a1_2 < (l0_1.length : Int) then ((ladderbackref11_Fields.f kj125 ((rd_T44 l0_1 a1_2).f1)).bind fun bt244 => (if a1_3 ≥ 0 then (ladderbackref26_Type.j8 kj125 0 bt244.2.1 (decide (a1_3 < (bt244.2.1.length : Int))) a1_0 a1_1 a1_2 a1_3 l1_4) else (ladderbackref26_Type.j8 kj125 0 bt244.2.1 false a1_0 a1_1 a1_2 a1_3 l1_4))) else (none)) else (none)) = some r := by rw [if_pos rfl] at H; exact H
                 clear H
                 have H := H1
                 clear H1
                 by_cases c138 : 0 ≤ a1_2
                 ·
                  rw [if_pos c138] at H
                  have c138b0 : decide (0 ≤ a1_2) = true := decide_eq_true c138
                  clear c138
                  by_cases c139 : a1_2 < (l0_1.length : Int)
                  ·
                   rw [if_pos c139] at H
                   have c139b0 : decide (a1_2 < (l0_1.length : Int)) = true := decide_eq_true c139
                   clear c139
                   replace H := Option.bind_eq_some_iff.mp H
                   obtain ⟨⟨t244, t245, t246⟩, A1400, H⟩ := H
                   replace H : (if a1_3 ≥ 0 then (ladderbackref26_Type.j8 kj125 0 t245 (decide (a1_3 < (t245.length : Int))) a1_0 a1_1 a1_2 a1_3 l1_4) else (ladderbackref26_Type.j8 kj125 0 t245 false a1_0 a1_1 a1_2 a1_3 l1_4)) = some r := H
                   have A140 := Aside0.mk A1400
                   clear A1400
                   have HC141 := Aside0.mk H
                   clear H
                   have hnb142 := NB226_227.out
                   have hnc142 := NB227_226.out
                   obtain ⟨hcz143_0, hcz143_1, hcz143_2, hcz143_3⟩ := box4_ BK226.out
                   obtain ⟨hfz143_0, hfz143_1, hfz143_2, hfz143_3⟩ := frz4_ BK226.out
                   obtain ⟨hcz144_0, hcz144_1, hcz144_2, hcz144_3, hcz144_4⟩ := box5_ BK227.out
                   obtain ⟨hfz144_0, hfz144_1, hfz144_2, hfz144_3, hfz144_4⟩ := frz5_ BK227.out
                   have p243 : 0 ≤ (a1_2 : Int) := of_decide_eq_true (by first | (with_reducible assumption) | assumption)
                   have q243 : a1_2 < (l0_1.length : Int) := of_decide_eq_true (by first | (with_reducible assumption) | assumption)
                   obtain ⟨ad243, e243, hx243_0, hx243_1⟩ := at_T44 HR0_1.out a1_2 p243 q243
                   cases e243
                   replace hx243_0 := (HB.out.cell (World.block_lt_of_cell? w _ hx243_0)).trans hx243_0
                   replace hx243_1 := (HB.out.cell (World.block_lt_of_cell? w _ hx243_1)).trans hx243_1
                   replace p243 := eq_true p243
                   replace q243 := eq_true q243
                   go_upto_region 25 with (first | ((with_reducible refine gate_callee (f := 68) rfl ?_); refine goesL_ (some 198) rfl rfl Tryd.func68 (by kernel_rfl) rfl #[.int .i64 ((rd_T44 l0_1 a1_2).f1)] rfl (by (try simp only [List.map_toArray, List.map_cons, List.map_nil]); first | done | rfl | (simp only [List.length_drop, List.length_take]; rfl)) ?_; (with_reducible refine (ladderbackref11_Fields.calls kj125 ((rd_T44 l0_1 a1_2).f1) t244 t245 t246 _ A140.out).mono ?_); rintro e w145 ⟨v247, v249, rfl, ho0, ho1, hb⟩; refine ⟨_, rfl, ?_⟩; have n0_ := Aside0.mk (Kd.R_lower ho0 (below_size (by repeat (first | (with_reducible first | exact HB.out | apply below_alloc | apply pw_below_drewN | apply below_drew1 | refine below_set ?_ GE226.out | refine below_set ?_ GE227.out) | exact HB.out)))); have n1_ := Aside0.mk (Kd.R_lower ho1 (below_size (by repeat (first | (with_reducible first | exact HB.out | apply below_alloc | apply pw_below_drewN | apply below_drew1 | refine below_set ?_ GE226.out | refine below_set ?_ GE227.out) | exact HB.out)))); have n2_ := Aside0.mk (blk_below (g := gb226) (o := .cells #[.slice A0_0 l0_0.length c0_0, .slice (some ad243) l0_1.length c0_1, .slice A0_2 l0_2.length c0_2, .slice A0_3 l0_3.length c0_3] 37 (0, 0)) (by (with_reducible repeat (first | refine blk_drewN ?_ _ | refine blk_drew ?_ | refine blk_alloc ?_ _)); exact BK226.out) hb); have n3_ := Aside0.mk (blk_below (g := gb227) (o := .cells #[.int .i64 a1_0, .int .i64 a1_1, .int .i64 a1_2, .int .i64 a1_3, .slice A1_4 l1_4.length c1_4] 30 (0, 0)) (by (with_reducible repeat (first | refine blk_drewN ?_ _ | refine blk_drew ?_ | refine blk_alloc ?_ _)); exact BK227.out) hb); have n4_ := Aside0.mk (below_step (by repeat (first | (with_reducible first | exact HB.out | apply below_alloc | apply pw_below_drewN | apply below_drew1 | refine below_set ?_ GE226.out | refine below_set ?_ GE227.out) | exact HB.out)) hb); clear BK226; clear BK227; clear HB; have HO248 := n0_; have HO250 := n1_; have BK226 := n2_; have BK227 := n3_; have HB := n4_; clear n0_ n1_ n2_ n3_ n4_; (try clear hb); (try clear hb2); (try clear hk); (try clear hi); (try clear ho0); (try clear ho1)))
                   repeat (go_quiet (first | ((with_reducible refine gate_callee (f := 68) rfl ?_); refine goesL_ (some 198) rfl rfl Tryd.func68 (by kernel_rfl) rfl #[.int .i64 ((rd_T44 l0_1 a1_2).f1)] rfl (by (try simp only [List.map_toArray, List.map_cons, List.map_nil]); first | done | rfl | (simp only [List.length_drop, List.length_take]; rfl)) ?_; (with_reducible refine (ladderbackref11_Fields.calls kj125 ((rd_T44 l0_1 a1_2).f1) t244 t245 t246 _ A140.out).mono ?_); rintro e w145 ⟨v247, v249, rfl, ho0, ho1, hb⟩; refine ⟨_, rfl, ?_⟩; have n0_ := Aside0.mk (Kd.R_lower ho0 (below_size (by repeat (first | (with_reducible first | exact HB.out | apply below_alloc | apply pw_below_drewN | apply below_drew1 | refine below_set ?_ GE226.out | refine below_set ?_ GE227.out) | exact HB.out)))); have n1_ := Aside0.mk (Kd.R_lower ho1 (below_size (by repeat (first | (with_reducible first | exact HB.out | apply below_alloc | apply pw_below_drewN | apply below_drew1 | refine below_set ?_ GE226.out | refine below_set ?_ GE227.out) | exact HB.out)))); have n2_ := Aside0.mk (blk_below (g := gb226) (o := .cells #[.slice A0_0 l0_0.length c0_0, .slice (some ad243) l0_1.length c0_1, .slice A0_2 l0_2.length c0_2, .slice A0_3 l0_3.length c0_3] 37 (0, 0)) (by (with_reducible repeat (first | refine blk_drewN ?_ _ | refine blk_drew ?_ | refine blk_alloc ?_ _)); exact BK226.out) hb); have n3_ := Aside0.mk (blk_below (g := gb227) (o := .cells #[.int .i64 a1_0, .int .i64 a1_1, .int .i64 a1_2, .int .i64 a1_3, .slice A1_4 l1_4.length c1_4] 30 (0, 0)) (by (with_reducible repeat (first | refine blk_drewN ?_ _ | refine blk_drew ?_ | refine blk_alloc ?_ _)); exact BK227.out) hb); have n4_ := Aside0.mk (below_step (by repeat (first | (with_reducible first | exact HB.out | apply below_alloc | apply pw_below_drewN | apply below_drew1 | refine below_set ?_ GE226.out | refine below_set ?_ GE227.out) | exact HB.out)) hb); clear BK226; clear BK227; clear HB; have HO248 := n0_; have HO250 := n1_; have BK226 := n2_; have BK227 := n3_; have HB := n4_; clear n0_ n1_ n2_ n3_ n4_; (try clear hb); (try clear hb2); (try clear hk); (try clear hi); (try clear ho0); (try clear ho1))); go_upto_region 25 with (first | ((with_reducible refine gate_callee (f := 68) rfl ?_); refine goesL_ (some 198) rfl rfl Tryd.func68 (by kernel_rfl) rfl #[.int .i64 ((rd_T44 l0_1 a1_2).f1)] rfl (by (try simp only [List.map_toArray, List.map_cons, List.map_nil]); first | done | rfl | (simp only [List.length_drop, List.length_take]; rfl)) ?_; (with_reducible refine (ladderbackref11_Fields.calls kj125 ((rd_T44 l0_1 a1_2).f1) t244 t245 t246 _ A140.out).mono ?_); rintro e w145 ⟨v247, v249, rfl, ho0, ho1, hb⟩; refine ⟨_, rfl, ?_⟩; have n0_ := Aside0.mk (Kd.R_lower ho0 (below_size (by repeat (first | (with_reducible first | exact HB.out | apply below_alloc | apply pw_below_drewN | apply below_drew1 | refine below_set ?_ GE226.out | refine below_set ?_ GE227.out) | exact HB.out)))); have n1_ := Aside0.mk (Kd.R_lower ho1 (below_size (by repeat (first | (with_reducible first | exact HB.out | apply below_alloc | apply pw_below_drewN | apply below_drew1 | refine below_set ?_ GE226.out | refine below_set ?_ GE227.out) | exact HB.out)))); have n2_ := Aside0.mk (blk_below (g := gb226) (o := .cells #[.slice A0_0 l0_0.length c0_0, .slice (some ad243) l0_1.length c0_1, .slice A0_2 l0_2.length c0_2, .slice A0_3 l0_3.length c0_3] 37 (0, 0)) (by (with_reducible repeat (first | refine blk_drewN ?_ _ | refine blk_drew ?_ | refine blk_alloc ?_ _)); exact BK226.out) hb); have n3_ := Aside0.mk (blk_below (g := gb227) (o := .cells #[.int .i64 a1_0, .int .i64 a1_1, .int .i64 a1_2, .int .i64 a1_3, .slice A1_4 l1_4.length c1_4] 30 (0, 0)) (by (with_reducible repeat (first | refine blk_drewN ?_ _ | refine blk_drew ?_ | refine blk_alloc ?_ _)); exact BK227.out) hb); have n4_ := Aside0.mk (below_step (by repeat (first | (with_reducible first | exact HB.out | apply below_alloc | apply pw_below_drewN | apply below_drew1 | refine below_set ?_ GE226.out | refine below_set ?_ GE227.out) | exact HB.out)) hb); clear BK226; clear BK227; clear HB; have HO248 := n0_; have HO250 := n1_; have BK226 := n2_; have BK227 := n3_; have HB := n4_; clear n0_ n1_ n2_ n3_ n4_; (try clear hb); (try clear hb2); (try clear hk); (try clear hi); (try clear ho0); (try clear ho1))))
                   (try simp only [Act.put, List.setIfInBounds_toArray, List.set_cons_zero, List.set_cons_succ])
                   go_cut [211] from 190 to 211 (fun v211 wc => ∃ (kq : Nat) (x211_140 : Bool), v211 = .bool x211_140 ∧ Aside0 (ladderbackref26_Type.j8 kq 0 t245 x211_140 a1_0 a1_1 a1_2 a1_3 l1_4 = some r) ∧ Aside0 (kq ≤ kj125) ∧ Aside0 (Kd.R (Kd.int .i64) 3 wc w.heap.size (fun _ => True) v249 t245) ∧ Aside0 (wc.heap[gb226]? = some (.cells #[(.slice A0_0 l0_0.length c0_0), (.slice (some ad243) l0_1.length c0_1), (.slice A0_2 l0_2.length c0_2), (.slice A0_3 l0_3.length c0_3)] 37 (0, 0))) ∧ Aside0 (wc.heap[gb227]? = some (.cells #[.int .i64 a1_0, .int .i64 a1_1, .int .i64 a1_2, .int .i64 a1_3, (.slice A1_4 l1_4.length c1_4)] 30 (0, 0))) ∧ Aside0 (Below w.heap.size w wc))
                   case first =>
                    have H := HC141.out
                    clear HC141
                    by_cases c146 : a1_3 ≥ 0
                    ·
                     rw [if_pos c146] at H
                     have c146b0 : decide (0 ≤ a1_3) = true := decide_eq_true c146
                     clear c146
                     (first | rw [c146b0] | (simp only [i64_w, i32_w]; rw [c146b0]) | rw [c146b1] | skip)
                     have H' := Aside0.mk H
                     clear H
                     have hnb147 := NB227_226.out
                     have hnc147 := NB226_227.out
                     obtain ⟨hcz148_0, hcz148_1, hcz148_2, hcz148_3, hcz148_4⟩ := box5_ BK227.out
                     obtain ⟨hfz148_0, hfz148_1, hfz148_2, hfz148_3, hfz148_4⟩ := frz5_ BK227.out
                     obtain ⟨Ao149, co149, eo149⟩ := Kd.R_slice HO250.out
                     subst eo149
                     try go_wp2
                     repeat (go_quiet (fail); try go_wp2)
                     go_meet
                     case rel => exact ⟨_, (decide (a1_3 < (t245.length : Int))), (by first | rfl | (simp; done) | (simp [*]; done)), H', ⟨by have := HJ2.out; have := HJ12.out; have := HJ18.out; have := HJ49.out; have := HJ125.out; first | omega | exact Nat.le_refl _⟩, ⟨by (with_reducible repeat (first | apply Kd.R_alloc | apply Kd.R_drewN | apply Kd.R_drew)); exact HO250.out⟩, ⟨by (with_reducible repeat (first | refine blk_drewN ?_ _ | refine blk_drew ?_ | refine blk_alloc ?_ _)); exact BK226.out⟩, ⟨by (with_reducible repeat (first | refine blk_drewN ?_ _ | refine blk_drew ?_ | refine blk_alloc ?_ _)); exact BK227.out⟩, ⟨by repeat (first | (with_reducible first | exact HB.out | apply below_alloc | apply pw_below_drewN | apply below_drew1 | refine below_set ?_ GE226.out | refine below_set ?_ GE227.out) | exact HB.out)⟩⟩
                    ·
                     rw [if_neg c146] at H
                     have c146b0 : decide (0 ≤ a1_3) = false := decide_eq_false c146
                     clear c146
                     (first | rw [c146b0] | (simp only [i64_w, i32_w]; rw [c146b0]) | rw [c146b1] | skip)
                     have H' := Aside0.mk H
                     clear H
                     have hnb150 := NB227_226.out
                     have hnc150 := NB226_227.out
                     obtain ⟨hcz151_0, hcz151_1, hcz151_2, hcz151_3, hcz151_4⟩ := box5_ BK227.out
                     obtain ⟨hfz151_0, hfz151_1, hfz151_2, hfz151_3, hfz151_4⟩ := frz5_ BK227.out
                     try go_wp2
                     repeat (go_quiet (fail); try go_wp2)
                     go_meet
                     case rel => exact ⟨_, (false), (by first | rfl | (simp; done) | (simp [*]; done)), H', ⟨by have := HJ2.out; have := HJ12.out; have := HJ18.out; have := HJ49.out; have := HJ125.out; first | omega | exact Nat.le_refl _⟩, ⟨by (with_reducible repeat (first | apply Kd.R_alloc | apply Kd.R_drewN | apply Kd.R_drew)); exact HO250.out⟩, ⟨by (with_reducible repeat (first | refine blk_drewN ?_ _ | refine blk_drew ?_ | refine blk_alloc ?_ _)); exact BK226.out⟩, ⟨by (with_reducible repeat (first | refine blk_drewN ?_ _ | refine blk_drew ?_ | refine blk_alloc ?_ _)); exact BK227.out⟩, ⟨by repeat (first | (with_reducible first | exact HB.out | apply below_alloc | apply pw_below_drewN | apply below_drew1 | refine below_set ?_ GE226.out | refine below_set ?_ GE227.out) | exact HB.out)⟩⟩
                   case rest =>
                    clear HC141
                    (try clear c137); (try clear c138); (try clear c138b0); (try clear c139); (try clear c139b0); (try clear hcz143_0); (try clear hcz143_1); (try clear hcz143_2); (try clear hcz143_3); (try clear hcz144_0); (try clear hcz144_1); (try clear hcz144_2); (try clear hcz144_3); (try clear hcz144_4); (try clear hfz143_0); (try clear hfz143_1); (try clear hfz143_2); (try clear hfz143_3); (try clear hfz144_0); (try clear hfz144_1); (try clear hfz144_2); (try clear hfz144_3); (try clear hfz144_4); (try clear hx243_0); (try clear hx243_1); (try clear p243); (try clear q243)
                    obtain ⟨kq, x211_140, rfl, HA, HJ140, HO_10, BK226, BK227, HB⟩ := hcut
                    cases kq with
                    | zero => exact absurd HA.out (by simp [ladderbackref26_Type.j8])
                    | succ kj140 =>
                     have H := HA.out
                     clear HA
                     simp only [ladderbackref26_Type.j8] at H
                     by_cases c152 : x211_140 = true
                     ·
                      subst c152
                      have H1 : (if 0 ≤ a1_3 then (if a1_3 < (t245.length : Int) then ((ladderbackref01_Right.f (rd t245 a1_3)).bind fun t252 => (if t252 = true then (some (rd t245 a1_3)) else (some 0))) else (none)) else (none)) = some r := by rw [if_pos rfl] at H; exact H
                      clear H
                      have H := H1
                      clear H1
                      by_cases c153 : 0 ≤ a1_3
                      ·
                       rw [if_pos c153] at H
                       have c153b0 : decide (0 ≤ a1_3) = true := decide_eq_true c153
                       clear c153
                       by_cases c154 : a1_3 < (t245.length : Int)
                       ·
                        rw [if_pos c154] at H
                        have c154b0 : decide (a1_3 < (t245.length : Int)) = true := decide_eq_true c154
                        clear c154
                        replace H := Option.bind_eq_some_iff.mp H
                        obtain ⟨t252, A1550, H⟩ := H
                        replace H : (if t252 = true then (some (rd t245 a1_3)) else (some 0)) = some r := H
                        have A155 := Aside0.mk A1550
                        clear A1550
                        by_cases c156 : t252 = true
                        ·
                         subst c156
                         have H1 : (some (rd t245 a1_3)) = some r := by rw [if_pos rfl] at H; exact H
                         clear H
                         have H := H1
                         clear H1
                         obtain rfl := Option.some.inj H
                         have hnb157 := NB227_226.out
                         have hnc157 := NB226_227.out
                         obtain ⟨hcz158_0, hcz158_1, hcz158_2, hcz158_3, hcz158_4⟩ := box5_ BK227.out
                         obtain ⟨hfz158_0, hfz158_1, hfz158_2, hfz158_3, hfz158_4⟩ := frz5_ BK227.out
                         obtain ⟨Ao159, co159, eo159⟩ := Kd.R_slice HO_10.out
                         subst eo159
                         have p251 : 0 ≤ (a1_3 : Int) := of_decide_eq_true (by first | (with_reducible assumption) | assumption)
                         have q251 : a1_3 < (t245.length : Int) := of_decide_eq_true (by first | (with_reducible assumption) | assumption)
                         obtain ⟨ad251, e251, hx251_0⟩ := Kd.at_int (Kd.R_reads' HO_10.out).2.2 a1_3 p251 q251
                         cases e251
                         replace p251 := eq_true p251
                         replace q251 := eq_true q251
                         try go_wp2_with (first | ((with_reducible refine gate_callee (f := 66) rfl ?_); refine goesL_ (some 314) rfl rfl Tryd.func66 (by kernel_rfl) rfl #[.int .i64 (rd t245 a1_3)] rfl (by (try simp only [List.map_toArray, List.map_cons, List.map_nil]); first | done | rfl | (simp only [List.length_drop, List.length_take]; rfl)) ?_; (with_reducible refine (ladderbackref01_Right.calls (rd t245 a1_3) true _ A155.out).mono ?_); rintro e w' ⟨rfl, ⟨nd, rfl⟩⟩; refine ⟨_, rfl, ?_⟩))
                         repeat (go_quiet (fail); try go_wp2_with (first | ((with_reducible refine gate_callee (f := 66) rfl ?_); refine goesL_ (some 314) rfl rfl Tryd.func66 (by kernel_rfl) rfl #[.int .i64 (rd t245 a1_3)] rfl (by (try simp only [List.map_toArray, List.map_cons, List.map_nil]); first | done | rfl | (simp only [List.length_drop, List.length_take]; rfl)) ?_; (with_reducible refine (ladderbackref01_Right.calls (rd t245 a1_3) true _ A155.out).mono ?_); rintro e w' ⟨rfl, ⟨nd, rfl⟩⟩; refine ⟨_, rfl, ?_⟩)))
                         go_ret
                         exact ⟨by first | rfl | (simp [errW_none, errW_some] <;> rfl) | (simp [*, errW_none, errW_some] <;> rfl), by repeat (first | (with_reducible first | exact HB.out | apply below_alloc | apply pw_below_drewN | apply below_drew1 | refine below_set ?_ GE226.out | refine below_set ?_ GE227.out) | exact HB.out)⟩
                        ·
                         replace c156 := Bool.eq_false_iff.mpr c156
                         subst c156
                         have H1 : (some 0) = some r := by rw [if_neg (show ¬ (false = true) by decide)] at H; exact H
                         clear H
                         have H := H1
                         clear H1
                         obtain rfl := Option.some.inj H
                         have hnb160 := NB227_226.out
                         have hnc160 := NB226_227.out
                         obtain ⟨hcz161_0, hcz161_1, hcz161_2, hcz161_3, hcz161_4⟩ := box5_ BK227.out
                         obtain ⟨hfz161_0, hfz161_1, hfz161_2, hfz161_3, hfz161_4⟩ := frz5_ BK227.out
                         obtain ⟨Ao162, co162, eo162⟩ := Kd.R_slice HO_10.out
                         subst eo162
                         have p251 : 0 ≤ (a1_3 : Int) := of_decide_eq_true (by first | (with_reducible assumption) | assumption)
                         have q251 : a1_3 < (t245.length : Int) := of_decide_eq_true (by first | (with_reducible assumption) | assumption)
                         obtain ⟨ad251, e251, hx251_0⟩ := Kd.at_int (Kd.R_reads' HO_10.out).2.2 a1_3 p251 q251
                         cases e251
                         replace p251 := eq_true p251
                         replace q251 := eq_true q251
                         try go_wp2_with (first | ((with_reducible refine gate_callee (f := 66) rfl ?_); refine goesL_ (some 314) rfl rfl Tryd.func66 (by kernel_rfl) rfl #[.int .i64 (rd t245 a1_3)] rfl (by (try simp only [List.map_toArray, List.map_cons, List.map_nil]); first | done | rfl | (simp only [List.length_drop, List.length_take]; rfl)) ?_; (with_reducible refine (ladderbackref01_Right.calls (rd t245 a1_3) false _ A155.out).mono ?_); rintro e w' ⟨rfl, ⟨nd, rfl⟩⟩; refine ⟨_, rfl, ?_⟩))
                         repeat (go_quiet (fail); try go_wp2_with (first | ((with_reducible refine gate_callee (f := 66) rfl ?_); refine goesL_ (some 314) rfl rfl Tryd.func66 (by kernel_rfl) rfl #[.int .i64 (rd t245 a1_3)] rfl (by (try simp only [List.map_toArray, List.map_cons, List.map_nil]); first | done | rfl | (simp only [List.length_drop, List.length_take]; rfl)) ?_; (with_reducible refine (ladderbackref01_Right.calls (rd t245 a1_3) false _ A155.out).mono ?_); rintro e w' ⟨rfl, ⟨nd, rfl⟩⟩; refine ⟨_, rfl, ?_⟩)))
                         go_ret
                         exact ⟨by first | rfl | (simp [errW_none, errW_some] <;> rfl) | (simp [*, errW_none, errW_some] <;> rfl), by repeat (first | (with_reducible first | exact HB.out | apply below_alloc | apply pw_below_drewN | apply below_drew1 | refine below_set ?_ GE226.out | refine below_set ?_ GE227.out) | exact HB.out)⟩
                       ·
                        rw [if_neg c154] at H
                        exact absurd H (by simp)
                      ·
                       rw [if_neg c153] at H
                       exact absurd H (by simp)
                     ·
                      replace c152 := Bool.eq_false_iff.mpr c152
                      subst c152
                      have H1 : ((ladderbackref01_Right.f 0).bind fun t253 => (if t253 = true then (some 0) else (some 0))) = some r := by rw [if_neg (show ¬ (false = true) by decide)] at H; exact H
                      clear H
                      have H := H1
                      clear H1
                      replace H := Option.bind_eq_some_iff.mp H
                      obtain ⟨t253, A1630, H⟩ := H
                      replace H : (if t253 = true then (some 0) else (some 0)) = some r := H
                      have A163 := Aside0.mk A1630
                      clear A1630
                      by_cases c164 : t253 = true
                      ·
                       subst c164
                       have H1 : (some 0) = some r := by rw [if_pos rfl] at H; exact H
                       clear H
                       have H := H1
                       clear H1
                       obtain rfl := Option.some.inj H
                       try go_wp2_with (first | ((with_reducible refine gate_callee (f := 66) rfl ?_); refine goesL_ (some 314) rfl rfl Tryd.func66 (by kernel_rfl) rfl #[.int .i64 0] rfl (by (try simp only [List.map_toArray, List.map_cons, List.map_nil]); first | done | rfl | (simp only [List.length_drop, List.length_take]; rfl)) ?_; (with_reducible refine (ladderbackref01_Right.calls 0 true _ A163.out).mono ?_); rintro e w' ⟨rfl, ⟨nd, rfl⟩⟩; refine ⟨_, rfl, ?_⟩))
                       repeat (go_quiet (fail); try go_wp2_with (first | ((with_reducible refine gate_callee (f := 66) rfl ?_); refine goesL_ (some 314) rfl rfl Tryd.func66 (by kernel_rfl) rfl #[.int .i64 0] rfl (by (try simp only [List.map_toArray, List.map_cons, List.map_nil]); first | done | rfl | (simp only [List.length_drop, List.length_take]; rfl)) ?_; (with_reducible refine (ladderbackref01_Right.calls 0 true _ A163.out).mono ?_); rintro e w' ⟨rfl, ⟨nd, rfl⟩⟩; refine ⟨_, rfl, ?_⟩)))
                       go_ret
                       exact ⟨by first | rfl | (simp [errW_none, errW_some] <;> rfl) | (simp [*, errW_none, errW_some] <;> rfl), by repeat (first | (with_reducible first | exact HB.out | apply below_alloc | apply pw_below_drewN | apply below_drew1 | refine below_set ?_ GE226.out | refine below_set ?_ GE227.out) | exact HB.out)⟩
                      ·
                       replace c164 := Bool.eq_false_iff.mpr c164
                       subst c164
                       have H1 : (some 0) = some r := by rw [if_neg (show ¬ (false = true) by decide)] at H; exact H
                       clear H
                       have H := H1
                       clear H1
                       obtain rfl := Option.some.inj H
                       try go_wp2_with (first | ((with_reducible refine gate_callee (f := 66) rfl ?_); refine goesL_ (some 314) rfl rfl Tryd.func66 (by kernel_rfl) rfl #[.int .i64 0] rfl (by (try simp only [List.map_toArray, List.map_cons, List.map_nil]); first | done | rfl | (simp only [List.length_drop, List.length_take]; rfl)) ?_; (with_reducible refine (ladderbackref01_Right.calls 0 false _ A163.out).mono ?_); rintro e w' ⟨rfl, ⟨nd, rfl⟩⟩; refine ⟨_, rfl, ?_⟩))
                       repeat (go_quiet (fail); try go_wp2_with (first | ((with_reducible refine gate_callee (f := 66) rfl ?_); refine goesL_ (some 314) rfl rfl Tryd.func66 (by kernel_rfl) rfl #[.int .i64 0] rfl (by (try simp only [List.map_toArray, List.map_cons, List.map_nil]); first | done | rfl | (simp only [List.length_drop, List.length_take]; rfl)) ?_; (with_reducible refine (ladderbackref01_Right.calls 0 false _ A163.out).mono ?_); rintro e w' ⟨rfl, ⟨nd, rfl⟩⟩; refine ⟨_, rfl, ?_⟩)))
                       go_ret
                       exact ⟨by first | rfl | (simp [errW_none, errW_some] <;> rfl) | (simp [*, errW_none, errW_some] <;> rfl), by repeat (first | (with_reducible first | exact HB.out | apply below_alloc | apply pw_below_drewN | apply below_drew1 | refine below_set ?_ GE226.out | refine below_set ?_ GE227.out) | exact HB.out)⟩
                  ·
                   rw [if_neg c139] at H
                   exact absurd H (by simp)
                 ·
                  rw [if_neg c138] at H
                  exact absurd H (by simp)
                ·
                 replace c137 := Bool.eq_false_iff.mpr c137
                 subst c137
                 have H1 : ((ladderbackref01_Right.f 0).bind fun t254 => (if t254 = true then (some 0) else (some 0))) = some r := by rw [if_neg (show ¬ (false = true) by decide)] at H; exact H
                 clear H
                 have H := H1
                 clear H1
                 replace H := Option.bind_eq_some_iff.mp H
                 obtain ⟨t254, A1650, H⟩ := H
                 replace H : (if t254 = true then (some 0) else (some 0)) = some r := H
                 have A165 := Aside0.mk A1650
                 clear A1650
                 by_cases c166 : t254 = true
                 ·
                  subst c166
                  have H1 : (some 0) = some r := by rw [if_pos rfl] at H; exact H
                  clear H
                  have H := H1
                  clear H1
                  obtain rfl := Option.some.inj H
                  try go_wp2_with (first | ((with_reducible refine gate_callee (f := 66) rfl ?_); refine goesL_ (some 314) rfl rfl Tryd.func66 (by kernel_rfl) rfl #[.int .i64 0] rfl (by (try simp only [List.map_toArray, List.map_cons, List.map_nil]); first | done | rfl | (simp only [List.length_drop, List.length_take]; rfl)) ?_; (with_reducible refine (ladderbackref01_Right.calls 0 true _ A165.out).mono ?_); rintro e w' ⟨rfl, ⟨nd, rfl⟩⟩; refine ⟨_, rfl, ?_⟩))
                  repeat (go_quiet (fail); try go_wp2_with (first | ((with_reducible refine gate_callee (f := 66) rfl ?_); refine goesL_ (some 314) rfl rfl Tryd.func66 (by kernel_rfl) rfl #[.int .i64 0] rfl (by (try simp only [List.map_toArray, List.map_cons, List.map_nil]); first | done | rfl | (simp only [List.length_drop, List.length_take]; rfl)) ?_; (with_reducible refine (ladderbackref01_Right.calls 0 true _ A165.out).mono ?_); rintro e w' ⟨rfl, ⟨nd, rfl⟩⟩; refine ⟨_, rfl, ?_⟩)))
                  go_ret
                  exact ⟨by first | rfl | (simp [errW_none, errW_some] <;> rfl) | (simp [*, errW_none, errW_some] <;> rfl), by repeat (first | (with_reducible first | exact HB.out | apply below_alloc | apply pw_below_drewN | apply below_drew1 | refine below_set ?_ GE226.out | refine below_set ?_ GE227.out) | exact HB.out)⟩
                 ·
                  replace c166 := Bool.eq_false_iff.mpr c166
                  subst c166
                  have H1 : (some 0) = some r := by rw [if_neg (show ¬ (false = true) by decide)] at H; exact H
                  clear H
                  have H := H1
                  clear H1
                  obtain rfl := Option.some.inj H
                  try go_wp2_with (first | ((with_reducible refine gate_callee (f := 66) rfl ?_); refine goesL_ (some 314) rfl rfl Tryd.func66 (by kernel_rfl) rfl #[.int .i64 0] rfl (by (try simp only [List.map_toArray, List.map_cons, List.map_nil]); first | done | rfl | (simp only [List.length_drop, List.length_take]; rfl)) ?_; (with_reducible refine (ladderbackref01_Right.calls 0 false _ A165.out).mono ?_); rintro e w' ⟨rfl, ⟨nd, rfl⟩⟩; refine ⟨_, rfl, ?_⟩))
                  repeat (go_quiet (fail); try go_wp2_with (first | ((with_reducible refine gate_callee (f := 66) rfl ?_); refine goesL_ (some 314) rfl rfl Tryd.func66 (by kernel_rfl) rfl #[.int .i64 0] rfl (by (try simp only [List.map_toArray, List.map_cons, List.map_nil]); first | done | rfl | (simp only [List.length_drop, List.length_take]; rfl)) ?_; (with_reducible refine (ladderbackref01_Right.calls 0 false _ A165.out).mono ?_); rintro e w' ⟨rfl, ⟨nd, rfl⟩⟩; refine ⟨_, rfl, ?_⟩)))
                  go_ret
                  exact ⟨by first | rfl | (simp [errW_none, errW_some] <;> rfl) | (simp [*, errW_none, errW_some] <;> rfl), by repeat (first | (with_reducible first | exact HB.out | apply below_alloc | apply pw_below_drewN | apply below_drew1 | refine below_set ?_ GE226.out | refine below_set ?_ GE227.out) | exact HB.out)⟩
             ·
              rw [if_neg c125] at H
              have c125b0 : (a1_0 == 5) = false := beq_eq_false_iff_ne.mpr c125
              have c125b1 : (a1_0 != 5) = true := bne_iff_ne.mpr c125
              by_cases c167 : a1_0 = 6
              ·
               rw [if_pos c167] at H
               have c167b0 : (a1_0 == 6) = true := beq_iff_eq.mpr c167
               have c167b1 : (a1_0 != 6) = false := bne_eq_false_iff_eq.mpr c167
               clear c167
               have HC168 := Aside0.mk H
               clear H
               go_upto_region 28 with (fail)
               repeat (go_quiet (fail); go_upto_region 28 with (fail))
               go_cut [240] from 212 to 240 (fun v240 wc => ∃ (kq : Nat) (x240_167 : Bool), v240 = .bool x240_167 ∧ Aside0 (ladderbackref26_Type.j9 kq x6_2 0 x240_167 a1_0 a1_1 a1_2 a1_3 l1_4 = some r) ∧ Aside0 (kq ≤ kj49) ∧ Aside0 (wc.heap[gb226]? = some (.cells #[(.slice A0_0 l0_0.length c0_0), (.slice A0_1 l0_1.length c0_1), (.slice A0_2 l0_2.length c0_2), (.slice A0_3 l0_3.length c0_3)] 37 (0, 0))) ∧ Aside0 (wc.heap[gb227]? = some (.cells #[.int .i64 a1_0, .int .i64 a1_1, .int .i64 a1_2, .int .i64 a1_3, (.slice A1_4 l1_4.length c1_4)] 30 (0, 0))) ∧ Aside0 (Below w.heap.size w wc))
               case first =>
                have H := HC168.out
                clear HC168
                by_cases c169 : (l1_4.length : Int) = 1
                ·
                 rw [if_pos c169] at H
                 have c169b0 : ((l1_4.length : Int) == 1) = true := beq_iff_eq.mpr c169
                 have c169b1 : ((l1_4.length : Int) != 1) = false := bne_eq_false_iff_eq.mpr c169
                 clear c169
                 (first | rw [c169b0] | (simp only [i64_w, i32_w]; rw [c169b0]) | rw [c169b1] | skip)
                 by_cases c170 : a1_1 = 0
                 ·
                  rw [if_pos c170] at H
                  have c170b0 : (a1_1 == 0) = true := beq_iff_eq.mpr c170
                  have c170b1 : (a1_1 != 0) = false := bne_eq_false_iff_eq.mpr c170
                  clear c170
                  by_cases c171 : a1_2 = 0
                  ·
                   rw [if_pos c171] at H
                   have c171b0 : (a1_2 == 0) = true := beq_iff_eq.mpr c171
                   have c171b1 : (a1_2 != 0) = false := bne_eq_false_iff_eq.mpr c171
                   clear c171
                   by_cases c172 : a1_3 = 13
                   ·
                    rw [if_pos c172] at H
                    have c172b0 : (a1_3 == 13) = true := beq_iff_eq.mpr c172
                    have c172b1 : (a1_3 != 13) = false := bne_eq_false_iff_eq.mpr c172
                    clear c172
                    have H' := Aside0.mk H
                    clear H
                    have hnb173 := NB227_226.out
                    have hnc173 := NB226_227.out
                    obtain ⟨hcz174_0, hcz174_1, hcz174_2, hcz174_3, hcz174_4⟩ := box5_ BK227.out
                    obtain ⟨hfz174_0, hfz174_1, hfz174_2, hfz174_3, hfz174_4⟩ := frz5_ BK227.out
                    try go_wp2
                    repeat (go_quiet (fail); try go_wp2)
                    go_meet
                    case rel => exact ⟨_, (true), (by first | rfl | (simp; done) | (simp [*]; done)), H', ⟨by have := HJ2.out; have := HJ12.out; have := HJ18.out; have := HJ49.out; first | omega | exact Nat.le_refl _⟩, ⟨by (with_reducible repeat (first | refine blk_drewN ?_ _ | refine blk_drew ?_ | refine blk_alloc ?_ _)); exact BK226.out⟩, ⟨by (with_reducible repeat (first | refine blk_drewN ?_ _ | refine blk_drew ?_ | refine blk_alloc ?_ _)); exact BK227.out⟩, ⟨by repeat (first | (with_reducible first | exact HB.out | apply below_alloc | apply pw_below_drewN | apply below_drew1 | refine below_set ?_ GE226.out | refine below_set ?_ GE227.out) | exact HB.out)⟩⟩
                   ·
                    rw [if_neg c172] at H
                    have c172b0 : (a1_3 == 13) = false := beq_eq_false_iff_ne.mpr c172
                    have c172b1 : (a1_3 != 13) = true := bne_iff_ne.mpr c172
                    have H' := Aside0.mk H
                    clear H
                    have hnb175 := NB227_226.out
                    have hnc175 := NB226_227.out
                    obtain ⟨hcz176_0, hcz176_1, hcz176_2, hcz176_3, hcz176_4⟩ := box5_ BK227.out
                    obtain ⟨hfz176_0, hfz176_1, hfz176_2, hfz176_3, hfz176_4⟩ := frz5_ BK227.out
                    try go_wp2
                    repeat (go_quiet (fail); try go_wp2)
                    go_meet
                    case rel => exact ⟨_, ((a1_3 == 17)), (by first | rfl | (simp; done) | (simp [*]; done)), H', ⟨by have := HJ2.out; have := HJ12.out; have := HJ18.out; have := HJ49.out; first | omega | exact Nat.le_refl _⟩, ⟨by (with_reducible repeat (first | refine blk_drewN ?_ _ | refine blk_drew ?_ | refine blk_alloc ?_ _)); exact BK226.out⟩, ⟨by (with_reducible repeat (first | refine blk_drewN ?_ _ | refine blk_drew ?_ | refine blk_alloc ?_ _)); exact BK227.out⟩, ⟨by repeat (first | (with_reducible first | exact HB.out | apply below_alloc | apply pw_below_drewN | apply below_drew1 | refine below_set ?_ GE226.out | refine below_set ?_ GE227.out) | exact HB.out)⟩⟩
                  ·
                   rw [if_neg c171] at H
                   have c171b0 : (a1_2 == 0) = false := beq_eq_false_iff_ne.mpr c171
                   have c171b1 : (a1_2 != 0) = true := bne_iff_ne.mpr c171
                   have H' := Aside0.mk H
                   clear H
                   have hnb177 := NB227_226.out
                   have hnc177 := NB226_227.out
                   obtain ⟨hcz178_0, hcz178_1, hcz178_2, hcz178_3, hcz178_4⟩ := box5_ BK227.out
                   obtain ⟨hfz178_0, hfz178_1, hfz178_2, hfz178_3, hfz178_4⟩ := frz5_ BK227.out
                   try go_wp2
                   repeat (go_quiet (fail); try go_wp2)
                   go_meet
                   case rel => exact ⟨_, (false), (by first | rfl | (simp; done) | (simp [*]; done)), H', ⟨by have := HJ2.out; have := HJ12.out; have := HJ18.out; have := HJ49.out; first | omega | exact Nat.le_refl _⟩, ⟨by (with_reducible repeat (first | refine blk_drewN ?_ _ | refine blk_drew ?_ | refine blk_alloc ?_ _)); exact BK226.out⟩, ⟨by (with_reducible repeat (first | refine blk_drewN ?_ _ | refine blk_drew ?_ | refine blk_alloc ?_ _)); exact BK227.out⟩, ⟨by repeat (first | (with_reducible first | exact HB.out | apply below_alloc | apply pw_below_drewN | apply below_drew1 | refine below_set ?_ GE226.out | refine below_set ?_ GE227.out) | exact HB.out)⟩⟩
                 ·
                  rw [if_neg c170] at H
                  have c170b0 : (a1_1 == 0) = false := beq_eq_false_iff_ne.mpr c170
                  have c170b1 : (a1_1 != 0) = true := bne_iff_ne.mpr c170
                  have H' := Aside0.mk H
                  clear H
                  have hnb179 := NB227_226.out
                  have hnc179 := NB226_227.out
                  obtain ⟨hcz180_0, hcz180_1, hcz180_2, hcz180_3, hcz180_4⟩ := box5_ BK227.out
                  obtain ⟨hfz180_0, hfz180_1, hfz180_2, hfz180_3, hfz180_4⟩ := frz5_ BK227.out
                  try go_wp2
                  repeat (go_quiet (fail); try go_wp2)
                  go_meet
                  case rel => exact ⟨_, (false), (by first | rfl | (simp; done) | (simp [*]; done)), H', ⟨by have := HJ2.out; have := HJ12.out; have := HJ18.out; have := HJ49.out; first | omega | exact Nat.le_refl _⟩, ⟨by (with_reducible repeat (first | refine blk_drewN ?_ _ | refine blk_drew ?_ | refine blk_alloc ?_ _)); exact BK226.out⟩, ⟨by (with_reducible repeat (first | refine blk_drewN ?_ _ | refine blk_drew ?_ | refine blk_alloc ?_ _)); exact BK227.out⟩, ⟨by repeat (first | (with_reducible first | exact HB.out | apply below_alloc | apply pw_below_drewN | apply below_drew1 | refine below_set ?_ GE226.out | refine below_set ?_ GE227.out) | exact HB.out)⟩⟩
                ·
                 rw [if_neg c169] at H
                 have c169b0 : ((l1_4.length : Int) == 1) = false := beq_eq_false_iff_ne.mpr c169
                 have c169b1 : ((l1_4.length : Int) != 1) = true := bne_iff_ne.mpr c169
                 (first | rw [c169b0] | (simp only [i64_w, i32_w]; rw [c169b0]) | rw [c169b1] | skip)
                 have H' := Aside0.mk H
                 clear H
                 try go_wp2
                 repeat (go_quiet (fail); try go_wp2)
                 go_meet
                 case rel => exact ⟨_, (false), (by first | rfl | (simp; done) | (simp [*]; done)), H', ⟨by have := HJ2.out; have := HJ12.out; have := HJ18.out; have := HJ49.out; first | omega | exact Nat.le_refl _⟩, ⟨by (with_reducible repeat (first | refine blk_drewN ?_ _ | refine blk_drew ?_ | refine blk_alloc ?_ _)); exact BK226.out⟩, ⟨by (with_reducible repeat (first | refine blk_drewN ?_ _ | refine blk_drew ?_ | refine blk_alloc ?_ _)); exact BK227.out⟩, ⟨by repeat (first | (with_reducible first | exact HB.out | apply below_alloc | apply pw_below_drewN | apply below_drew1 | refine below_set ?_ GE226.out | refine below_set ?_ GE227.out) | exact HB.out)⟩⟩
               case rest =>
                clear HC168
                (try clear c125); (try clear c125b0); (try clear c125b1); (try clear c167); (try clear c167b0); (try clear c167b1)
                obtain ⟨kq, x240_167, rfl, HA, HJ167, BK226, BK227, HB⟩ := hcut
                cases kq with
                | zero => exact absurd HA.out (by simp [ladderbackref26_Type.j9])
                | succ kj167 =>
                 have H := HA.out
                 clear HA
                 simp only [ladderbackref26_Type.j9] at H
                 by_cases c181 : x240_167 = true
                 ·
                  subst c181
                  have H1 : ((ladderbackref07_Result.f kj167 a1_3 x6_2).bind fun t255 => ((ladderbackref01_Right.f t255).bind fun t256 => (if t256 = true then (some t255) else (some 0)))) = some r := by rw [if_pos rfl] at H; exact H
                  clear H
                  have H := H1
                  clear H1
                  replace H := Option.bind_eq_some_iff.mp H
                  obtain ⟨t255, A1820, H⟩ := H
                  replace H : ((ladderbackref01_Right.f t255).bind fun t256 => (if t256 = true then (some t255) else (some 0))) = some r := H
                  have A182 := Aside0.mk A1820
                  clear A1820
                  replace H := Option.bind_eq_some_iff.mp H
                  obtain ⟨t256, A1830, H⟩ := H
                  replace H : (if t256 = true then (some t255) else (some 0)) = some r := H
                  have A183 := Aside0.mk A1830
                  clear A1830
                  by_cases c184 : t256 = true
                  ·
                   subst c184
                   have H1 : (some t255) = some r := by rw [if_pos rfl] at H; exact H
                   clear H
                   have H := H1
                   clear H1
                   obtain rfl := Option.some.inj H
                   have hnb185 := NB227_226.out
                   have hnc185 := NB226_227.out
                   obtain ⟨hcz186_0, hcz186_1, hcz186_2, hcz186_3, hcz186_4⟩ := box5_ BK227.out
                   obtain ⟨hfz186_0, hfz186_1, hfz186_2, hfz186_3, hfz186_4⟩ := frz5_ BK227.out
                   try go_wp2_with (first | ((with_reducible refine gate_callee (f := 69) rfl ?_); refine goesL_ (some 244) rfl rfl Tryd.func69 (by kernel_rfl) rfl #[.int .i64 a1_3, .int .i64 x6_2] rfl (by (try simp only [List.map_toArray, List.map_cons, List.map_nil]); first | done | rfl | (simp only [List.length_drop, List.length_take]; rfl)) ?_; (with_reducible refine (ladderbackref07_Result.calls kj167 a1_3 x6_2 t255 _ A182.out).mono ?_); rintro e w' ⟨rfl, ⟨nd, rfl⟩⟩; refine ⟨_, rfl, ?_⟩) | ((with_reducible refine gate_callee (f := 66) rfl ?_); refine goesL_ (some 314) rfl rfl Tryd.func66 (by kernel_rfl) rfl #[.int .i64 t255] rfl (by (try simp only [List.map_toArray, List.map_cons, List.map_nil]); first | done | rfl | (simp only [List.length_drop, List.length_take]; rfl)) ?_; (with_reducible refine (ladderbackref01_Right.calls t255 true _ A183.out).mono ?_); rintro e w' ⟨rfl, ⟨nd, rfl⟩⟩; refine ⟨_, rfl, ?_⟩))
                   repeat (go_quiet (fail); try go_wp2_with (first | ((with_reducible refine gate_callee (f := 69) rfl ?_); refine goesL_ (some 244) rfl rfl Tryd.func69 (by kernel_rfl) rfl #[.int .i64 a1_3, .int .i64 x6_2] rfl (by (try simp only [List.map_toArray, List.map_cons, List.map_nil]); first | done | rfl | (simp only [List.length_drop, List.length_take]; rfl)) ?_; (with_reducible refine (ladderbackref07_Result.calls kj167 a1_3 x6_2 t255 _ A182.out).mono ?_); rintro e w' ⟨rfl, ⟨nd, rfl⟩⟩; refine ⟨_, rfl, ?_⟩) | ((with_reducible refine gate_callee (f := 66) rfl ?_); refine goesL_ (some 314) rfl rfl Tryd.func66 (by kernel_rfl) rfl #[.int .i64 t255] rfl (by (try simp only [List.map_toArray, List.map_cons, List.map_nil]); first | done | rfl | (simp only [List.length_drop, List.length_take]; rfl)) ?_; (with_reducible refine (ladderbackref01_Right.calls t255 true _ A183.out).mono ?_); rintro e w' ⟨rfl, ⟨nd, rfl⟩⟩; refine ⟨_, rfl, ?_⟩)))
                   go_ret
                   exact ⟨by first | rfl | (simp [errW_none, errW_some] <;> rfl) | (simp [*, errW_none, errW_some] <;> rfl), by repeat (first | (with_reducible first | exact HB.out | apply below_alloc | apply pw_below_drewN | apply below_drew1 | refine below_set ?_ GE226.out | refine below_set ?_ GE227.out) | exact HB.out)⟩
                  ·
                   replace c184 := Bool.eq_false_iff.mpr c184
                   subst c184
                   have H1 : (some 0) = some r := by rw [if_neg (show ¬ (false = true) by decide)] at H; exact H
                   clear H
                   have H := H1
                   clear H1
                   obtain rfl := Option.some.inj H
                   have hnb187 := NB227_226.out
                   have hnc187 := NB226_227.out
                   obtain ⟨hcz188_0, hcz188_1, hcz188_2, hcz188_3, hcz188_4⟩ := box5_ BK227.out
                   obtain ⟨hfz188_0, hfz188_1, hfz188_2, hfz188_3, hfz188_4⟩ := frz5_ BK227.out
                   try go_wp2_with (first | ((with_reducible refine gate_callee (f := 69) rfl ?_); refine goesL_ (some 244) rfl rfl Tryd.func69 (by kernel_rfl) rfl #[.int .i64 a1_3, .int .i64 x6_2] rfl (by (try simp only [List.map_toArray, List.map_cons, List.map_nil]); first | done | rfl | (simp only [List.length_drop, List.length_take]; rfl)) ?_; (with_reducible refine (ladderbackref07_Result.calls kj167 a1_3 x6_2 t255 _ A182.out).mono ?_); rintro e w' ⟨rfl, ⟨nd, rfl⟩⟩; refine ⟨_, rfl, ?_⟩) | ((with_reducible refine gate_callee (f := 66) rfl ?_); refine goesL_ (some 314) rfl rfl Tryd.func66 (by kernel_rfl) rfl #[.int .i64 t255] rfl (by (try simp only [List.map_toArray, List.map_cons, List.map_nil]); first | done | rfl | (simp only [List.length_drop, List.length_take]; rfl)) ?_; (with_reducible refine (ladderbackref01_Right.calls t255 false _ A183.out).mono ?_); rintro e w' ⟨rfl, ⟨nd, rfl⟩⟩; refine ⟨_, rfl, ?_⟩))
                   repeat (go_quiet (fail); try go_wp2_with (first | ((with_reducible refine gate_callee (f := 69) rfl ?_); refine goesL_ (some 244) rfl rfl Tryd.func69 (by kernel_rfl) rfl #[.int .i64 a1_3, .int .i64 x6_2] rfl (by (try simp only [List.map_toArray, List.map_cons, List.map_nil]); first | done | rfl | (simp only [List.length_drop, List.length_take]; rfl)) ?_; (with_reducible refine (ladderbackref07_Result.calls kj167 a1_3 x6_2 t255 _ A182.out).mono ?_); rintro e w' ⟨rfl, ⟨nd, rfl⟩⟩; refine ⟨_, rfl, ?_⟩) | ((with_reducible refine gate_callee (f := 66) rfl ?_); refine goesL_ (some 314) rfl rfl Tryd.func66 (by kernel_rfl) rfl #[.int .i64 t255] rfl (by (try simp only [List.map_toArray, List.map_cons, List.map_nil]); first | done | rfl | (simp only [List.length_drop, List.length_take]; rfl)) ?_; (with_reducible refine (ladderbackref01_Right.calls t255 false _ A183.out).mono ?_); rintro e w' ⟨rfl, ⟨nd, rfl⟩⟩; refine ⟨_, rfl, ?_⟩)))
                   go_ret
                   exact ⟨by first | rfl | (simp [errW_none, errW_some] <;> rfl) | (simp [*, errW_none, errW_some] <;> rfl), by repeat (first | (with_reducible first | exact HB.out | apply below_alloc | apply pw_below_drewN | apply below_drew1 | refine below_set ?_ GE226.out | refine below_set ?_ GE227.out) | exact HB.out)⟩
                 ·
                  replace c181 := Bool.eq_false_iff.mpr c181
                  subst c181
                  have H1 : ((ladderbackref01_Right.f 0).bind fun t257 => (if t257 = true then (some 0) else (some 0))) = some r := by rw [if_neg (show ¬ (false = true) by decide)] at H; exact H
                  clear H
                  have H := H1
                  clear H1
                  replace H := Option.bind_eq_some_iff.mp H
                  obtain ⟨t257, A1890, H⟩ := H
                  replace H : (if t257 = true then (some 0) else (some 0)) = some r := H
                  have A189 := Aside0.mk A1890
                  clear A1890
                  by_cases c190 : t257 = true
                  ·
                   subst c190
                   have H1 : (some 0) = some r := by rw [if_pos rfl] at H; exact H
                   clear H
                   have H := H1
                   clear H1
                   obtain rfl := Option.some.inj H
                   try go_wp2_with (first | ((with_reducible refine gate_callee (f := 66) rfl ?_); refine goesL_ (some 314) rfl rfl Tryd.func66 (by kernel_rfl) rfl #[.int .i64 0] rfl (by (try simp only [List.map_toArray, List.map_cons, List.map_nil]); first | done | rfl | (simp only [List.length_drop, List.length_take]; rfl)) ?_; (with_reducible refine (ladderbackref01_Right.calls 0 true _ A189.out).mono ?_); rintro e w' ⟨rfl, ⟨nd, rfl⟩⟩; refine ⟨_, rfl, ?_⟩))
                   repeat (go_quiet (fail); try go_wp2_with (first | ((with_reducible refine gate_callee (f := 66) rfl ?_); refine goesL_ (some 314) rfl rfl Tryd.func66 (by kernel_rfl) rfl #[.int .i64 0] rfl (by (try simp only [List.map_toArray, List.map_cons, List.map_nil]); first | done | rfl | (simp only [List.length_drop, List.length_take]; rfl)) ?_; (with_reducible refine (ladderbackref01_Right.calls 0 true _ A189.out).mono ?_); rintro e w' ⟨rfl, ⟨nd, rfl⟩⟩; refine ⟨_, rfl, ?_⟩)))
                   go_ret
                   exact ⟨by first | rfl | (simp [errW_none, errW_some] <;> rfl) | (simp [*, errW_none, errW_some] <;> rfl), by repeat (first | (with_reducible first | exact HB.out | apply below_alloc | apply pw_below_drewN | apply below_drew1 | refine below_set ?_ GE226.out | refine below_set ?_ GE227.out) | exact HB.out)⟩
                  ·
                   replace c190 := Bool.eq_false_iff.mpr c190
                   subst c190
                   have H1 : (some 0) = some r := by rw [if_neg (show ¬ (false = true) by decide)] at H; exact H
                   clear H
                   have H := H1
                   clear H1
                   obtain rfl := Option.some.inj H
                   try go_wp2_with (first | ((with_reducible refine gate_callee (f := 66) rfl ?_); refine goesL_ (some 314) rfl rfl Tryd.func66 (by kernel_rfl) rfl #[.int .i64 0] rfl (by (try simp only [List.map_toArray, List.map_cons, List.map_nil]); first | done | rfl | (simp only [List.length_drop, List.length_take]; rfl)) ?_; (with_reducible refine (ladderbackref01_Right.calls 0 false _ A189.out).mono ?_); rintro e w' ⟨rfl, ⟨nd, rfl⟩⟩; refine ⟨_, rfl, ?_⟩))
                   repeat (go_quiet (fail); try go_wp2_with (first | ((with_reducible refine gate_callee (f := 66) rfl ?_); refine goesL_ (some 314) rfl rfl Tryd.func66 (by kernel_rfl) rfl #[.int .i64 0] rfl (by (try simp only [List.map_toArray, List.map_cons, List.map_nil]); first | done | rfl | (simp only [List.length_drop, List.length_take]; rfl)) ?_; (with_reducible refine (ladderbackref01_Right.calls 0 false _ A189.out).mono ?_); rintro e w' ⟨rfl, ⟨nd, rfl⟩⟩; refine ⟨_, rfl, ?_⟩)))
                   go_ret
                   exact ⟨by first | rfl | (simp [errW_none, errW_some] <;> rfl) | (simp [*, errW_none, errW_some] <;> rfl), by repeat (first | (with_reducible first | exact HB.out | apply below_alloc | apply pw_below_drewN | apply below_drew1 | refine below_set ?_ GE226.out | refine below_set ?_ GE227.out) | exact HB.out)⟩
              ·
               rw [if_neg c167] at H
               have c167b0 : (a1_0 == 6) = false := beq_eq_false_iff_ne.mpr c167
               have c167b1 : (a1_0 != 6) = true := bne_iff_ne.mpr c167
               by_cases c191 : a1_0 = 7
               ·
                rw [if_pos c191] at H
                have c191b0 : (a1_0 == 7) = true := beq_iff_eq.mpr c191
                have c191b1 : (a1_0 != 7) = false := bne_eq_false_iff_eq.mpr c191
                clear c191
                have HC192 := Aside0.mk H
                clear H
                go_upto_region 31 with (fail)
                repeat (go_quiet (fail); go_upto_region 31 with (fail))
                go_cut [292] from 241 to 292 (fun v292 wc => ∃ (kq : Nat) (x292_191 : Bool), v292 = .bool x292_191 ∧ Aside0 (ladderbackref26_Type.j10 kq x6_2 0 x292_191 a1_0 a1_1 a1_2 a1_3 l1_4 = some r) ∧ Aside0 (kq ≤ kj49) ∧ Aside0 (wc.heap[gb226]? = some (.cells #[(.slice A0_0 l0_0.length c0_0), (.slice A0_1 l0_1.length c0_1), (.slice A0_2 l0_2.length c0_2), (.slice A0_3 l0_3.length c0_3)] 37 (0, 0))) ∧ Aside0 (wc.heap[gb227]? = some (.cells #[.int .i64 a1_0, .int .i64 a1_1, .int .i64 a1_2, .int .i64 a1_3, (.slice A1_4 l1_4.length c1_4)] 30 (0, 0))) ∧ Aside0 (Below w.heap.size w wc))
                case first =>
                 have H := HC192.out
                 clear HC192
                 by_cases c193 : (l1_4.length : Int) = 2
                 ·
                  rw [if_pos c193] at H
                  have c193b0 : ((l1_4.length : Int) == 2) = true := beq_iff_eq.mpr c193
                  have c193b1 : ((l1_4.length : Int) != 2) = false := bne_eq_false_iff_eq.mpr c193
                  clear c193
                  (first | rw [c193b0] | (simp only [i64_w, i32_w]; rw [c193b0]) | rw [c193b1] | skip)
                  by_cases c194 : a1_1 = 0
                  ·
                   rw [if_pos c194] at H
                   have c194b0 : (a1_1 == 0) = true := beq_iff_eq.mpr c194
                   have c194b1 : (a1_1 != 0) = false := bne_eq_false_iff_eq.mpr c194
                   clear c194
                   by_cases c195 : a1_2 = 0
                   ·
                    rw [if_pos c195] at H
                    have c195b0 : (a1_2 == 0) = true := beq_iff_eq.mpr c195
                    have c195b1 : (a1_2 != 0) = false := bne_eq_false_iff_eq.mpr c195
                    clear c195
                    replace H := Option.bind_eq_some_iff.mp H
                    obtain ⟨t258, A1960, H⟩ := H
                    replace H : (if t258 = true then (if x7_12 = x6_2 then (if a1_3 = 18 then (if x7_12 = 2 then (ladderbackref26_Type.j10 kj49 x6_2 0 true a1_0 a1_1 a1_2 a1_3 l1_4) else (ladderbackref26_Type.j10 kj49 x6_2 0 false a1_0 a1_1 a1_2 a1_3 l1_4)) else (if a1_3 = 19 then (if x7_12 = 2 then (ladderbackref26_Type.j10 kj49 x6_2 0 (a1_3 == 19) a1_0 a1_1 a1_2 a1_3 l1_4) else (ladderbackref26_Type.j10 kj49 x6_2 0 false a1_0 a1_1 a1_2 a1_3 l1_4)) else (ladderbackref26_Type.j10 kj49 x6_2 0 true a1_0 a1_1 a1_2 a1_3 l1_4))) else (if x7_12 = 2 then (if a1_3 = 18 then (ladderbackref26_Type.j10 kj49 x6_2 0 true a1_0 a1_1 a1_2 a1_3 l1_4) else (ladderbackref26_Type.j10 kj49 x6_2 0 (a1_3 == 19) a1_0 a1_1 a1_2 a1_3 l1_4)) else (ladderbackref26_Type.j10 kj49 x6_2 0 false a1_0 a1_1 a1_2 a1_3 l1_4))) else (ladderbackref26_Type.j10 kj49 x6_2 0 false a1_0 a1_1 a1_2 a1_3 l1_4)) = some r := H
                    have A196 := Aside0.mk A1960
                    clear A1960
                    by_cases c197 : t258 = true
                    ·
                     subst c197
                     have H1 : (if x7_12 = x6_2 then (if a1_3 = 18 then (if x7_12 = 2 then (ladderbackref26_Type.j10 kj49 x6_2 0 true a1_0 a1_1 a1_2 a1_3 l1_4) else (ladderbackref26_Type.j10 kj49 x6_2 0 false a1_0 a1_1 a1_2 a1_3 l1_4)) else (if a1_3 = 19 then (if x7_12 = 2 then (ladderbackref26_Type.j10 kj49 x6_2 0 (a1_3 == 19) a1_0 a1_1 a1_2 a1_3 l1_4) else (ladderbackref26_Type.j10 kj49 x6_2 0 false a1_0 a1_1 a1_2 a1_3 l1_4)) else (ladderbackref26_Type.j10 kj49 x6_2 0 true a1_0 a1_1 a1_2 a1_3 l1_4))) else (if x7_12 = 2 then (if a1_3 = 18 then (ladderbackref26_Type.j10 kj49 x6_2 0 true a1_0 a1_1 a1_2 a1_3 l1_4) else (ladderbackref26_Type.j10 kj49 x6_2 0 (a1_3 == 19) a1_0 a1_1 a1_2 a1_3 l1_4)) else (ladderbackref26_Type.j10 kj49 x6_2 0 false a1_0 a1_1 a1_2 a1_3 l1_4))) = some r := by rw [if_pos rfl] at H; exact H
                     clear H
                     have H := H1
                     clear H1
                     by_cases c198 : x7_12 = x6_2
                     ·
                      rw [if_pos c198] at H
                      have c198b0 : (x7_12 == x6_2) = true := beq_iff_eq.mpr c198
                      have c198b1 : (x7_12 != x6_2) = false := bne_eq_false_iff_eq.mpr c198
                      clear c198
                      by_cases c199 : a1_3 = 18
                      ·
                       rw [if_pos c199] at H
                       have c199b0 : (a1_3 == 18) = true := beq_iff_eq.mpr c199
                       have c199b1 : (a1_3 != 18) = false := bne_eq_false_iff_eq.mpr c199
                       clear c199
                       by_cases c200 : x7_12 = 2
                       ·
                        rw [if_pos c200] at H
                        have c200b0 : (x7_12 == 2) = true := beq_iff_eq.mpr c200
                        have c200b1 : (x7_12 != 2) = false := bne_eq_false_iff_eq.mpr c200
                        clear c200
                        have H' := Aside0.mk H
                        clear H
                        have hnb201 := NB227_226.out
                        have hnc201 := NB226_227.out
                        obtain ⟨hcz202_0, hcz202_1, hcz202_2, hcz202_3, hcz202_4⟩ := box5_ BK227.out
                        obtain ⟨hfz202_0, hfz202_1, hfz202_2, hfz202_3, hfz202_4⟩ := frz5_ BK227.out
                        try go_wp2_with (first | (go_at_call 70; (with_reducible refine (ladderbackref07_Binary.calls a1_3 true _ A196.out).mono ?_); rintro e w' ⟨rfl, ⟨nd, rfl⟩⟩))
                        repeat (go_quiet (fail); try go_wp2_with (first | (go_at_call 70; (with_reducible refine (ladderbackref07_Binary.calls a1_3 true _ A196.out).mono ?_); rintro e w' ⟨rfl, ⟨nd, rfl⟩⟩)))
                        go_meet
                        case rel => exact ⟨_, (true), (by first | rfl | (simp; done) | (simp [*]; done)), H', ⟨by have := HJ2.out; have := HJ12.out; have := HJ18.out; have := HJ49.out; first | omega | exact Nat.le_refl _⟩, ⟨by (with_reducible repeat (first | refine blk_drewN ?_ _ | refine blk_drew ?_ | refine blk_alloc ?_ _)); exact BK226.out⟩, ⟨by (with_reducible repeat (first | refine blk_drewN ?_ _ | refine blk_drew ?_ | refine blk_alloc ?_ _)); exact BK227.out⟩, ⟨by repeat (first | (with_reducible first | exact HB.out | apply below_alloc | apply pw_below_drewN | apply below_drew1 | refine below_set ?_ GE226.out | refine below_set ?_ GE227.out) | exact HB.out)⟩⟩
                       ·
                        rw [if_neg c200] at H
                        have c200b0 : (x7_12 == 2) = false := beq_eq_false_iff_ne.mpr c200
                        have c200b1 : (x7_12 != 2) = true := bne_iff_ne.mpr c200
                        have H' := Aside0.mk H
                        clear H
                        have hnb203 := NB227_226.out
                        have hnc203 := NB226_227.out
                        obtain ⟨hcz204_0, hcz204_1, hcz204_2, hcz204_3, hcz204_4⟩ := box5_ BK227.out
                        obtain ⟨hfz204_0, hfz204_1, hfz204_2, hfz204_3, hfz204_4⟩ := frz5_ BK227.out
                        try go_wp2_with (first | (go_at_call 70; (with_reducible refine (ladderbackref07_Binary.calls a1_3 true _ A196.out).mono ?_); rintro e w' ⟨rfl, ⟨nd, rfl⟩⟩))
                        repeat (go_quiet (fail); try go_wp2_with (first | (go_at_call 70; (with_reducible refine (ladderbackref07_Binary.calls a1_3 true _ A196.out).mono ?_); rintro e w' ⟨rfl, ⟨nd, rfl⟩⟩)))
                        go_meet
                        case rel => exact ⟨_, (false), (by first | rfl | (simp; done) | (simp [*]; done)), H', ⟨by have := HJ2.out; have := HJ12.out; have := HJ18.out; have := HJ49.out; first | omega | exact Nat.le_refl _⟩, ⟨by (with_reducible repeat (first | refine blk_drewN ?_ _ | refine blk_drew ?_ | refine blk_alloc ?_ _)); exact BK226.out⟩, ⟨by (with_reducible repeat (first | refine blk_drewN ?_ _ | refine blk_drew ?_ | refine blk_alloc ?_ _)); exact BK227.out⟩, ⟨by repeat (first | (with_reducible first | exact HB.out | apply below_alloc | apply pw_below_drewN | apply below_drew1 | refine below_set ?_ GE226.out | refine below_set ?_ GE227.out) | exact HB.out)⟩⟩
                      ·
                       rw [if_neg c199] at H
                       have c199b0 : (a1_3 == 18) = false := beq_eq_false_iff_ne.mpr c199
                       have c199b1 : (a1_3 != 18) = true := bne_iff_ne.mpr c199
                       by_cases c205 : a1_3 = 19
                       ·
                        rw [if_pos c205] at H
                        have c205b0 : (a1_3 == 19) = true := beq_iff_eq.mpr c205
                        have c205b1 : (a1_3 != 19) = false := bne_eq_false_iff_eq.mpr c205
                        clear c205
                        by_cases c206 : x7_12 = 2
                        ·
                         rw [if_pos c206] at H
                         have c206b0 : (x7_12 == 2) = true := beq_iff_eq.mpr c206
                         have c206b1 : (x7_12 != 2) = false := bne_eq_false_iff_eq.mpr c206
                         clear c206
                         have H' := Aside0.mk H
                         clear H
                         have hnb207 := NB227_226.out
                         have hnc207 := NB226_227.out
                         obtain ⟨hcz208_0, hcz208_1, hcz208_2, hcz208_3, hcz208_4⟩ := box5_ BK227.out
                         obtain ⟨hfz208_0, hfz208_1, hfz208_2, hfz208_3, hfz208_4⟩ := frz5_ BK227.out
                         try go_wp2_with (first | (go_at_call 70; (with_reducible refine (ladderbackref07_Binary.calls a1_3 true _ A196.out).mono ?_); rintro e w' ⟨rfl, ⟨nd, rfl⟩⟩))
                         repeat (go_quiet (fail); try go_wp2_with (first | (go_at_call 70; (with_reducible refine (ladderbackref07_Binary.calls a1_3 true _ A196.out).mono ?_); rintro e w' ⟨rfl, ⟨nd, rfl⟩⟩)))
                         go_meet
                         case rel => exact ⟨_, ((a1_3 == 19)), (by first | rfl | (simp; done) | (simp [*]; done)), H', ⟨by have := HJ2.out; have := HJ12.out; have := HJ18.out; have := HJ49.out; first | omega | exact Nat.le_refl _⟩, ⟨by (with_reducible repeat (first | refine blk_drewN ?_ _ | refine blk_drew ?_ | refine blk_alloc ?_ _)); exact BK226.out⟩, ⟨by (with_reducible repeat (first | refine blk_drewN ?_ _ | refine blk_drew ?_ | refine blk_alloc ?_ _)); exact BK227.out⟩, ⟨by repeat (first | (with_reducible first | exact HB.out | apply below_alloc | apply pw_below_drewN | apply below_drew1 | refine below_set ?_ GE226.out | refine below_set ?_ GE227.out) | exact HB.out)⟩⟩
                        ·
                         rw [if_neg c206] at H
                         have c206b0 : (x7_12 == 2) = false := beq_eq_false_iff_ne.mpr c206
                         have c206b1 : (x7_12 != 2) = true := bne_iff_ne.mpr c206
                         have H' := Aside0.mk H
                         clear H
                         have hnb209 := NB227_226.out
                         have hnc209 := NB226_227.out
                         obtain ⟨hcz210_0, hcz210_1, hcz210_2, hcz210_3, hcz210_4⟩ := box5_ BK227.out
                         obtain ⟨hfz210_0, hfz210_1, hfz210_2, hfz210_3, hfz210_4⟩ := frz5_ BK227.out
                         try go_wp2_with (first | (go_at_call 70; (with_reducible refine (ladderbackref07_Binary.calls a1_3 true _ A196.out).mono ?_); rintro e w' ⟨rfl, ⟨nd, rfl⟩⟩))
                         repeat (go_quiet (fail); try go_wp2_with (first | (go_at_call 70; (with_reducible refine (ladderbackref07_Binary.calls a1_3 true _ A196.out).mono ?_); rintro e w' ⟨rfl, ⟨nd, rfl⟩⟩)))
                         go_meet
                         case rel => exact ⟨_, (false), (by first | rfl | (simp; done) | (simp [*]; done)), H', ⟨by have := HJ2.out; have := HJ12.out; have := HJ18.out; have := HJ49.out; first | omega | exact Nat.le_refl _⟩, ⟨by (with_reducible repeat (first | refine blk_drewN ?_ _ | refine blk_drew ?_ | refine blk_alloc ?_ _)); exact BK226.out⟩, ⟨by (with_reducible repeat (first | refine blk_drewN ?_ _ | refine blk_drew ?_ | refine blk_alloc ?_ _)); exact BK227.out⟩, ⟨by repeat (first | (with_reducible first | exact HB.out | apply below_alloc | apply pw_below_drewN | apply below_drew1 | refine below_set ?_ GE226.out | refine below_set ?_ GE227.out) | exact HB.out)⟩⟩
                       ·
                        rw [if_neg c205] at H
                        have c205b0 : (a1_3 == 19) = false := beq_eq_false_iff_ne.mpr c205
                        have c205b1 : (a1_3 != 19) = true := bne_iff_ne.mpr c205
                        have H' := Aside0.mk H
                        clear H
                        have hnb211 := NB227_226.out
                        have hnc211 := NB226_227.out
                        obtain ⟨hcz212_0, hcz212_1, hcz212_2, hcz212_3, hcz212_4⟩ := box5_ BK227.out
                        obtain ⟨hfz212_0, hfz212_1, hfz212_2, hfz212_3, hfz212_4⟩ := frz5_ BK227.out
                        try go_wp2_with (first | (go_at_call 70; (with_reducible refine (ladderbackref07_Binary.calls a1_3 true _ A196.out).mono ?_); rintro e w' ⟨rfl, ⟨nd, rfl⟩⟩))
                        repeat (go_quiet (fail); try go_wp2_with (first | (go_at_call 70; (with_reducible refine (ladderbackref07_Binary.calls a1_3 true _ A196.out).mono ?_); rintro e w' ⟨rfl, ⟨nd, rfl⟩⟩)))
                        go_meet
                        case rel => exact ⟨_, (true), (by first | rfl | (simp; done) | (simp [*]; done)), H', ⟨by have := HJ2.out; have := HJ12.out; have := HJ18.out; have := HJ49.out; first | omega | exact Nat.le_refl _⟩, ⟨by (with_reducible repeat (first | refine blk_drewN ?_ _ | refine blk_drew ?_ | refine blk_alloc ?_ _)); exact BK226.out⟩, ⟨by (with_reducible repeat (first | refine blk_drewN ?_ _ | refine blk_drew ?_ | refine blk_alloc ?_ _)); exact BK227.out⟩, ⟨by repeat (first | (with_reducible first | exact HB.out | apply below_alloc | apply pw_below_drewN | apply below_drew1 | refine below_set ?_ GE226.out | refine below_set ?_ GE227.out) | exact HB.out)⟩⟩
                     ·
                      rw [if_neg c198] at H
                      have c198b0 : (x7_12 == x6_2) = false := beq_eq_false_iff_ne.mpr c198
                      have c198b1 : (x7_12 != x6_2) = true := bne_iff_ne.mpr c198
                      by_cases c213 : x7_12 = 2
                      ·
                       rw [if_pos c213] at H
                       have c213b0 : (x7_12 == 2) = true := beq_iff_eq.mpr c213
                       have c213b1 : (x7_12 != 2) = false := bne_eq_false_iff_eq.mpr c213
                       clear c213
                       by_cases c214 : a1_3 = 18
                       ·
                        rw [if_pos c214] at H
                        have c214b0 : (a1_3 == 18) = true := beq_iff_eq.mpr c214
                        have c214b1 : (a1_3 != 18) = false := bne_eq_false_iff_eq.mpr c214
                        clear c214
                        have H' := Aside0.mk H
                        clear H
                        have hnb215 := NB227_226.out
                        have hnc215 := NB226_227.out
                        obtain ⟨hcz216_0, hcz216_1, hcz216_2, hcz216_3, hcz216_4⟩ := box5_ BK227.out
                        obtain ⟨hfz216_0, hfz216_1, hfz216_2, hfz216_3, hfz216_4⟩ := frz5_ BK227.out
                        try go_wp2_with (first | (go_at_call 70; (with_reducible refine (ladderbackref07_Binary.calls a1_3 true _ A196.out).mono ?_); rintro e w' ⟨rfl, ⟨nd, rfl⟩⟩))
                        repeat (go_quiet (fail); try go_wp2_with (first | (go_at_call 70; (with_reducible refine (ladderbackref07_Binary.calls a1_3 true _ A196.out).mono ?_); rintro e w' ⟨rfl, ⟨nd, rfl⟩⟩)))
                        go_meet
                        case rel => exact ⟨_, (true), (by first | rfl | (simp; done) | (simp [*]; done)), H', ⟨by have := HJ2.out; have := HJ12.out; have := HJ18.out; have := HJ49.out; first | omega | exact Nat.le_refl _⟩, ⟨by (with_reducible repeat (first | refine blk_drewN ?_ _ | refine blk_drew ?_ | refine blk_alloc ?_ _)); exact BK226.out⟩, ⟨by (with_reducible repeat (first | refine blk_drewN ?_ _ | refine blk_drew ?_ | refine blk_alloc ?_ _)); exact BK227.out⟩, ⟨by repeat (first | (with_reducible first | exact HB.out | apply below_alloc | apply pw_below_drewN | apply below_drew1 | refine below_set ?_ GE226.out | refine below_set ?_ GE227.out) | exact HB.out)⟩⟩
                       ·
                        rw [if_neg c214] at H
                        have c214b0 : (a1_3 == 18) = false := beq_eq_false_iff_ne.mpr c214
                        have c214b1 : (a1_3 != 18) = true := bne_iff_ne.mpr c214
                        have H' := Aside0.mk H
                        clear H
                        have hnb217 := NB227_226.out
                        have hnc217 := NB226_227.out
                        obtain ⟨hcz218_0, hcz218_1, hcz218_2, hcz218_3, hcz218_4⟩ := box5_ BK227.out
                        obtain ⟨hfz218_0, hfz218_1, hfz218_2, hfz218_3, hfz218_4⟩ := frz5_ BK227.out
                        try go_wp2_with (first | (go_at_call 70; (with_reducible refine (ladderbackref07_Binary.calls a1_3 true _ A196.out).mono ?_); rintro e w' ⟨rfl, ⟨nd, rfl⟩⟩))
                        repeat (go_quiet (fail); try go_wp2_with (first | (go_at_call 70; (with_reducible refine (ladderbackref07_Binary.calls a1_3 true _ A196.out).mono ?_); rintro e w' ⟨rfl, ⟨nd, rfl⟩⟩)))
                        go_meet
                        case rel => exact ⟨_, ((a1_3 == 19)), (by first | rfl | (simp; done) | (simp [*]; done)), H', ⟨by have := HJ2.out; have := HJ12.out; have := HJ18.out; have := HJ49.out; first | omega | exact Nat.le_refl _⟩, ⟨by (with_reducible repeat (first | refine blk_drewN ?_ _ | refine blk_drew ?_ | refine blk_alloc ?_ _)); exact BK226.out⟩, ⟨by (with_reducible repeat (first | refine blk_drewN ?_ _ | refine blk_drew ?_ | refine blk_alloc ?_ _)); exact BK227.out⟩, ⟨by repeat (first | (with_reducible first | exact HB.out | apply below_alloc | apply pw_below_drewN | apply below_drew1 | refine below_set ?_ GE226.out | refine below_set ?_ GE227.out) | exact HB.out)⟩⟩
                      ·
                       rw [if_neg c213] at H
                       have c213b0 : (x7_12 == 2) = false := beq_eq_false_iff_ne.mpr c213
                       have c213b1 : (x7_12 != 2) = true := bne_iff_ne.mpr c213
                       have H' := Aside0.mk H
                       clear H
                       have hnb219 := NB227_226.out
                       have hnc219 := NB226_227.out
                       obtain ⟨hcz220_0, hcz220_1, hcz220_2, hcz220_3, hcz220_4⟩ := box5_ BK227.out
                       obtain ⟨hfz220_0, hfz220_1, hfz220_2, hfz220_3, hfz220_4⟩ := frz5_ BK227.out
                       try go_wp2_with (first | (go_at_call 70; (with_reducible refine (ladderbackref07_Binary.calls a1_3 true _ A196.out).mono ?_); rintro e w' ⟨rfl, ⟨nd, rfl⟩⟩))
                       repeat (go_quiet (fail); try go_wp2_with (first | (go_at_call 70; (with_reducible refine (ladderbackref07_Binary.calls a1_3 true _ A196.out).mono ?_); rintro e w' ⟨rfl, ⟨nd, rfl⟩⟩)))
                       go_meet
                       case rel => exact ⟨_, (false), (by first | rfl | (simp; done) | (simp [*]; done)), H', ⟨by have := HJ2.out; have := HJ12.out; have := HJ18.out; have := HJ49.out; first | omega | exact Nat.le_refl _⟩, ⟨by (with_reducible repeat (first | refine blk_drewN ?_ _ | refine blk_drew ?_ | refine blk_alloc ?_ _)); exact BK226.out⟩, ⟨by (with_reducible repeat (first | refine blk_drewN ?_ _ | refine blk_drew ?_ | refine blk_alloc ?_ _)); exact BK227.out⟩, ⟨by repeat (first | (with_reducible first | exact HB.out | apply below_alloc | apply pw_below_drewN | apply below_drew1 | refine below_set ?_ GE226.out | refine below_set ?_ GE227.out) | exact HB.out)⟩⟩
                    ·
                     replace c197 := Bool.eq_false_iff.mpr c197
                     subst c197
                     have H1 : (ladderbackref26_Type.j10 kj49 x6_2 0 false a1_0 a1_1 a1_2 a1_3 l1_4) = some r := by rw [if_neg (show ¬ (false = true) by decide)] at H; exact H
                     clear H
                     have H := H1
                     clear H1
                     have H' := Aside0.mk H
                     clear H
                     have hnb221 := NB227_226.out
                     have hnc221 := NB226_227.out
                     obtain ⟨hcz222_0, hcz222_1, hcz222_2, hcz222_3, hcz222_4⟩ := box5_ BK227.out
                     obtain ⟨hfz222_0, hfz222_1, hfz222_2, hfz222_3, hfz222_4⟩ := frz5_ BK227.out
                     try go_wp2_with (first | (go_at_call 70; (with_reducible refine (ladderbackref07_Binary.calls a1_3 false _ A196.out).mono ?_); rintro e w' ⟨rfl, ⟨nd, rfl⟩⟩))
                     repeat (go_quiet (fail); try go_wp2_with (first | (go_at_call 70; (with_reducible refine (ladderbackref07_Binary.calls a1_3 false _ A196.out).mono ?_); rintro e w' ⟨rfl, ⟨nd, rfl⟩⟩)))
                     go_meet
                     case rel => exact ⟨_, (false), (by first | rfl | (simp; done) | (simp [*]; done)), H', ⟨by have := HJ2.out; have := HJ12.out; have := HJ18.out; have := HJ49.out; first | omega | exact Nat.le_refl _⟩, ⟨by (with_reducible repeat (first | refine blk_drewN ?_ _ | refine blk_drew ?_ | refine blk_alloc ?_ _)); exact BK226.out⟩, ⟨by (with_reducible repeat (first | refine blk_drewN ?_ _ | refine blk_drew ?_ | refine blk_alloc ?_ _)); exact BK227.out⟩, ⟨by repeat (first | (with_reducible first | exact HB.out | apply below_alloc | apply pw_below_drewN | apply below_drew1 | refine below_set ?_ GE226.out | refine below_set ?_ GE227.out) | exact HB.out)⟩⟩
                   ·
                    rw [if_neg c195] at H
                    have c195b0 : (a1_2 == 0) = false := beq_eq_false_iff_ne.mpr c195
                    have c195b1 : (a1_2 != 0) = true := bne_iff_ne.mpr c195
                    have H' := Aside0.mk H
                    clear H
                    have hnb223 := NB227_226.out
                    have hnc223 := NB226_227.out
                    obtain ⟨hcz224_0, hcz224_1, hcz224_2, hcz224_3, hcz224_4⟩ := box5_ BK227.out
                    obtain ⟨hfz224_0, hfz224_1, hfz224_2, hfz224_3, hfz224_4⟩ := frz5_ BK227.out
                    try go_wp2
                    repeat (go_quiet (fail); try go_wp2)
                    go_meet
                    case rel => exact ⟨_, (false), (by first | rfl | (simp; done) | (simp [*]; done)), H', ⟨by have := HJ2.out; have := HJ12.out; have := HJ18.out; have := HJ49.out; first | omega | exact Nat.le_refl _⟩, ⟨by (with_reducible repeat (first | refine blk_drewN ?_ _ | refine blk_drew ?_ | refine blk_alloc ?_ _)); exact BK226.out⟩, ⟨by (with_reducible repeat (first | refine blk_drewN ?_ _ | refine blk_drew ?_ | refine blk_alloc ?_ _)); exact BK227.out⟩, ⟨by repeat (first | (with_reducible first | exact HB.out | apply below_alloc | apply pw_below_drewN | apply below_drew1 | refine below_set ?_ GE226.out | refine below_set ?_ GE227.out) | exact HB.out)⟩⟩
                  ·
                   rw [if_neg c194] at H
                   have c194b0 : (a1_1 == 0) = false := beq_eq_false_iff_ne.mpr c194
                   have c194b1 : (a1_1 != 0) = true := bne_iff_ne.mpr c194
                   have H' := Aside0.mk H
                   clear H
                   have hnb225 := NB227_226.out
                   have hnc225 := NB226_227.out
                   obtain ⟨hcz226_0, hcz226_1, hcz226_2, hcz226_3, hcz226_4⟩ := box5_ BK227.out
                   obtain ⟨hfz226_0, hfz226_1, hfz226_2, hfz226_3, hfz226_4⟩ := frz5_ BK227.out
                   try go_wp2
                   repeat (go_quiet (fail); try go_wp2)
                   go_meet
                   case rel => exact ⟨_, (false), (by first | rfl | (simp; done) | (simp [*]; done)), H', ⟨by have := HJ2.out; have := HJ12.out; have := HJ18.out; have := HJ49.out; first | omega | exact Nat.le_refl _⟩, ⟨by (with_reducible repeat (first | refine blk_drewN ?_ _ | refine blk_drew ?_ | refine blk_alloc ?_ _)); exact BK226.out⟩, ⟨by (with_reducible repeat (first | refine blk_drewN ?_ _ | refine blk_drew ?_ | refine blk_alloc ?_ _)); exact BK227.out⟩, ⟨by repeat (first | (with_reducible first | exact HB.out | apply below_alloc | apply pw_below_drewN | apply below_drew1 | refine below_set ?_ GE226.out | refine below_set ?_ GE227.out) | exact HB.out)⟩⟩
                 ·
                  rw [if_neg c193] at H
                  have c193b0 : ((l1_4.length : Int) == 2) = false := beq_eq_false_iff_ne.mpr c193
                  have c193b1 : ((l1_4.length : Int) != 2) = true := bne_iff_ne.mpr c193
                  (first | rw [c193b0] | (simp only [i64_w, i32_w]; rw [c193b0]) | rw [c193b1] | skip)
                  have H' := Aside0.mk H
                  clear H
                  try go_wp2
                  repeat (go_quiet (fail); try go_wp2)
                  go_meet
                  case rel => exact ⟨_, (false), (by first | rfl | (simp; done) | (simp [*]; done)), H', ⟨by have := HJ2.out; have := HJ12.out; have := HJ18.out; have := HJ49.out; first | omega | exact Nat.le_refl _⟩, ⟨by (with_reducible repeat (first | refine blk_drewN ?_ _ | refine blk_drew ?_ | refine blk_alloc ?_ _)); exact BK226.out⟩, ⟨by (with_reducible repeat (first | refine blk_drewN ?_ _ | refine blk_drew ?_ | refine blk_alloc ?_ _)); exact BK227.out⟩, ⟨by repeat (first | (with_reducible first | exact HB.out | apply below_alloc | apply pw_below_drewN | apply below_drew1 | refine below_set ?_ GE226.out | refine below_set ?_ GE227.out) | exact HB.out)⟩⟩
                case rest =>
                 clear HC192
                 (try clear c167); (try clear c167b0); (try clear c167b1); (try clear c191); (try clear c191b0); (try clear c191b1)
                 obtain ⟨kq, x292_191, rfl, HA, HJ191, BK226, BK227, HB⟩ := hcut
                 cases kq with
                 | zero => exact absurd HA.out (by simp [ladderbackref26_Type.j10])
                 | succ kj191 =>
                  have H := HA.out
                  clear HA
                  simp only [ladderbackref26_Type.j10] at H
                  by_cases c227 : x292_191 = true
                  ·
                   subst c227
                   have H1 : ((ladderbackref07_Result.f kj191 a1_3 x6_2).bind fun t259 => ((ladderbackref01_Right.f t259).bind fun t260 => (if t260 = true then (some t259) else (some 0)))) = some r := by rw [if_pos rfl] at H; exact H
                   clear H
                   have H := H1
                   clear H1
                   replace H := Option.bind_eq_some_iff.mp H
                   obtain ⟨t259, A2280, H⟩ := H
                   replace H : ((ladderbackref01_Right.f t259).bind fun t260 => (if t260 = true then (some t259) else (some 0))) = some r := H
                   have A228 := Aside0.mk A2280
                   clear A2280
                   replace H := Option.bind_eq_some_iff.mp H
                   obtain ⟨t260, A2290, H⟩ := H
                   replace H : (if t260 = true then (some t259) else (some 0)) = some r := H
                   have A229 := Aside0.mk A2290
                   clear A2290
                   by_cases c230 : t260 = true
                   ·
                    subst c230
                    have H1 : (some t259) = some r := by rw [if_pos rfl] at H; exact H
                    clear H
                    have H := H1
                    clear H1
                    obtain rfl := Option.some.inj H
                    have hnb231 := NB227_226.out
                    have hnc231 := NB226_227.out
                    obtain ⟨hcz232_0, hcz232_1, hcz232_2, hcz232_3, hcz232_4⟩ := box5_ BK227.out
                    obtain ⟨hfz232_0, hfz232_1, hfz232_2, hfz232_3, hfz232_4⟩ := frz5_ BK227.out
                    try go_wp2_with (first | ((with_reducible refine gate_callee (f := 69) rfl ?_); refine goesL_ (some 296) rfl rfl Tryd.func69 (by kernel_rfl) rfl #[.int .i64 a1_3, .int .i64 x6_2] rfl (by (try simp only [List.map_toArray, List.map_cons, List.map_nil]); first | done | rfl | (simp only [List.length_drop, List.length_take]; rfl)) ?_; (with_reducible refine (ladderbackref07_Result.calls kj191 a1_3 x6_2 t259 _ A228.out).mono ?_); rintro e w' ⟨rfl, ⟨nd, rfl⟩⟩; refine ⟨_, rfl, ?_⟩) | ((with_reducible refine gate_callee (f := 66) rfl ?_); refine goesL_ (some 314) rfl rfl Tryd.func66 (by kernel_rfl) rfl #[.int .i64 t259] rfl (by (try simp only [List.map_toArray, List.map_cons, List.map_nil]); first | done | rfl | (simp only [List.length_drop, List.length_take]; rfl)) ?_; (with_reducible refine (ladderbackref01_Right.calls t259 true _ A229.out).mono ?_); rintro e w' ⟨rfl, ⟨nd, rfl⟩⟩; refine ⟨_, rfl, ?_⟩))
                    repeat (go_quiet (fail); try go_wp2_with (first | ((with_reducible refine gate_callee (f := 69) rfl ?_); refine goesL_ (some 296) rfl rfl Tryd.func69 (by kernel_rfl) rfl #[.int .i64 a1_3, .int .i64 x6_2] rfl (by (try simp only [List.map_toArray, List.map_cons, List.map_nil]); first | done | rfl | (simp only [List.length_drop, List.length_take]; rfl)) ?_; (with_reducible refine (ladderbackref07_Result.calls kj191 a1_3 x6_2 t259 _ A228.out).mono ?_); rintro e w' ⟨rfl, ⟨nd, rfl⟩⟩; refine ⟨_, rfl, ?_⟩) | ((with_reducible refine gate_callee (f := 66) rfl ?_); refine goesL_ (some 314) rfl rfl Tryd.func66 (by kernel_rfl) rfl #[.int .i64 t259] rfl (by (try simp only [List.map_toArray, List.map_cons, List.map_nil]); first | done | rfl | (simp only [List.length_drop, List.length_take]; rfl)) ?_; (with_reducible refine (ladderbackref01_Right.calls t259 true _ A229.out).mono ?_); rintro e w' ⟨rfl, ⟨nd, rfl⟩⟩; refine ⟨_, rfl, ?_⟩)))
                    go_ret
                    exact ⟨by first | rfl | (simp [errW_none, errW_some] <;> rfl) | (simp [*, errW_none, errW_some] <;> rfl), by repeat (first | (with_reducible first | exact HB.out | apply below_alloc | apply pw_below_drewN | apply below_drew1 | refine below_set ?_ GE226.out | refine below_set ?_ GE227.out) | exact HB.out)⟩
                   ·
                    replace c230 := Bool.eq_false_iff.mpr c230
                    subst c230
                    have H1 : (some 0) = some r := by rw [if_neg (show ¬ (false = true) by decide)] at H; exact H
                    clear H
                    have H := H1
                    clear H1
                    obtain rfl := Option.some.inj H
                    have hnb233 := NB227_226.out
                    have hnc233 := NB226_227.out
                    obtain ⟨hcz234_0, hcz234_1, hcz234_2, hcz234_3, hcz234_4⟩ := box5_ BK227.out
                    obtain ⟨hfz234_0, hfz234_1, hfz234_2, hfz234_3, hfz234_4⟩ := frz5_ BK227.out
                    try go_wp2_with (first | ((with_reducible refine gate_callee (f := 69) rfl ?_); refine goesL_ (some 296) rfl rfl Tryd.func69 (by kernel_rfl) rfl #[.int .i64 a1_3, .int .i64 x6_2] rfl (by (try simp only [List.map_toArray, List.map_cons, List.map_nil]); first | done | rfl | (simp only [List.length_drop, List.length_take]; rfl)) ?_; (with_reducible refine (ladderbackref07_Result.calls kj191 a1_3 x6_2 t259 _ A228.out).mono ?_); rintro e w' ⟨rfl, ⟨nd, rfl⟩⟩; refine ⟨_, rfl, ?_⟩) | ((with_reducible refine gate_callee (f := 66) rfl ?_); refine goesL_ (some 314) rfl rfl Tryd.func66 (by kernel_rfl) rfl #[.int .i64 t259] rfl (by (try simp only [List.map_toArray, List.map_cons, List.map_nil]); first | done | rfl | (simp only [List.length_drop, List.length_take]; rfl)) ?_; (with_reducible refine (ladderbackref01_Right.calls t259 false _ A229.out).mono ?_); rintro e w' ⟨rfl, ⟨nd, rfl⟩⟩; refine ⟨_, rfl, ?_⟩))
                    repeat (go_quiet (fail); try go_wp2_with (first | ((with_reducible refine gate_callee (f := 69) rfl ?_); refine goesL_ (some 296) rfl rfl Tryd.func69 (by kernel_rfl) rfl #[.int .i64 a1_3, .int .i64 x6_2] rfl (by (try simp only [List.map_toArray, List.map_cons, List.map_nil]); first | done | rfl | (simp only [List.length_drop, List.length_take]; rfl)) ?_; (with_reducible refine (ladderbackref07_Result.calls kj191 a1_3 x6_2 t259 _ A228.out).mono ?_); rintro e w' ⟨rfl, ⟨nd, rfl⟩⟩; refine ⟨_, rfl, ?_⟩) | ((with_reducible refine gate_callee (f := 66) rfl ?_); refine goesL_ (some 314) rfl rfl Tryd.func66 (by kernel_rfl) rfl #[.int .i64 t259] rfl (by (try simp only [List.map_toArray, List.map_cons, List.map_nil]); first | done | rfl | (simp only [List.length_drop, List.length_take]; rfl)) ?_; (with_reducible refine (ladderbackref01_Right.calls t259 false _ A229.out).mono ?_); rintro e w' ⟨rfl, ⟨nd, rfl⟩⟩; refine ⟨_, rfl, ?_⟩)))
                    go_ret
                    exact ⟨by first | rfl | (simp [errW_none, errW_some] <;> rfl) | (simp [*, errW_none, errW_some] <;> rfl), by repeat (first | (with_reducible first | exact HB.out | apply below_alloc | apply pw_below_drewN | apply below_drew1 | refine below_set ?_ GE226.out | refine below_set ?_ GE227.out) | exact HB.out)⟩
                  ·
                   replace c227 := Bool.eq_false_iff.mpr c227
                   subst c227
                   have H1 : ((ladderbackref01_Right.f 0).bind fun t261 => (if t261 = true then (some 0) else (some 0))) = some r := by rw [if_neg (show ¬ (false = true) by decide)] at H; exact H
                   clear H
                   have H := H1
                   clear H1
                   replace H := Option.bind_eq_some_iff.mp H
                   obtain ⟨t261, A2350, H⟩ := H
                   replace H : (if t261 = true then (some 0) else (some 0)) = some r := H
                   have A235 := Aside0.mk A2350
                   clear A2350
                   by_cases c236 : t261 = true
                   ·
                    subst c236
                    have H1 : (some 0) = some r := by rw [if_pos rfl] at H; exact H
                    clear H
                    have H := H1
                    clear H1
                    obtain rfl := Option.some.inj H
                    try go_wp2_with (first | ((with_reducible refine gate_callee (f := 66) rfl ?_); refine goesL_ (some 314) rfl rfl Tryd.func66 (by kernel_rfl) rfl #[.int .i64 0] rfl (by (try simp only [List.map_toArray, List.map_cons, List.map_nil]); first | done | rfl | (simp only [List.length_drop, List.length_take]; rfl)) ?_; (with_reducible refine (ladderbackref01_Right.calls 0 true _ A235.out).mono ?_); rintro e w' ⟨rfl, ⟨nd, rfl⟩⟩; refine ⟨_, rfl, ?_⟩))
                    repeat (go_quiet (fail); try go_wp2_with (first | ((with_reducible refine gate_callee (f := 66) rfl ?_); refine goesL_ (some 314) rfl rfl Tryd.func66 (by kernel_rfl) rfl #[.int .i64 0] rfl (by (try simp only [List.map_toArray, List.map_cons, List.map_nil]); first | done | rfl | (simp only [List.length_drop, List.length_take]; rfl)) ?_; (with_reducible refine (ladderbackref01_Right.calls 0 true _ A235.out).mono ?_); rintro e w' ⟨rfl, ⟨nd, rfl⟩⟩; refine ⟨_, rfl, ?_⟩)))
                    go_ret
                    exact ⟨by first | rfl | (simp [errW_none, errW_some] <;> rfl) | (simp [*, errW_none, errW_some] <;> rfl), by repeat (first | (with_reducible first | exact HB.out | apply below_alloc | apply pw_below_drewN | apply below_drew1 | refine below_set ?_ GE226.out | refine below_set ?_ GE227.out) | exact HB.out)⟩
                   ·
                    replace c236 := Bool.eq_false_iff.mpr c236
                    subst c236
                    have H1 : (some 0) = some r := by rw [if_neg (show ¬ (false = true) by decide)] at H; exact H
                    clear H
                    have H := H1
                    clear H1
                    obtain rfl := Option.some.inj H
                    try go_wp2_with (first | ((with_reducible refine gate_callee (f := 66) rfl ?_); refine goesL_ (some 314) rfl rfl Tryd.func66 (by kernel_rfl) rfl #[.int .i64 0] rfl (by (try simp only [List.map_toArray, List.map_cons, List.map_nil]); first | done | rfl | (simp only [List.length_drop, List.length_take]; rfl)) ?_; (with_reducible refine (ladderbackref01_Right.calls 0 false _ A235.out).mono ?_); rintro e w' ⟨rfl, ⟨nd, rfl⟩⟩; refine ⟨_, rfl, ?_⟩))
                    repeat (go_quiet (fail); try go_wp2_with (first | ((with_reducible refine gate_callee (f := 66) rfl ?_); refine goesL_ (some 314) rfl rfl Tryd.func66 (by kernel_rfl) rfl #[.int .i64 0] rfl (by (try simp only [List.map_toArray, List.map_cons, List.map_nil]); first | done | rfl | (simp only [List.length_drop, List.length_take]; rfl)) ?_; (with_reducible refine (ladderbackref01_Right.calls 0 false _ A235.out).mono ?_); rintro e w' ⟨rfl, ⟨nd, rfl⟩⟩; refine ⟨_, rfl, ?_⟩)))
                    go_ret
                    exact ⟨by first | rfl | (simp [errW_none, errW_some] <;> rfl) | (simp [*, errW_none, errW_some] <;> rfl), by repeat (first | (with_reducible first | exact HB.out | apply below_alloc | apply pw_below_drewN | apply below_drew1 | refine below_set ?_ GE226.out | refine below_set ?_ GE227.out) | exact HB.out)⟩
               ·
                rw [if_neg c191] at H
                have c191b0 : (a1_0 == 7) = false := beq_eq_false_iff_ne.mpr c191
                have c191b1 : (a1_0 != 7) = true := bne_iff_ne.mpr c191
                by_cases c237 : a1_0 = 8
                ·
                 rw [if_pos c237] at H
                 have c237b0 : (a1_0 == 8) = true := beq_iff_eq.mpr c237
                 have c237b1 : (a1_0 != 8) = false := bne_eq_false_iff_eq.mpr c237
                 clear c237
                 have HC238 := Aside0.mk H
                 clear H
                 go_upto_region 34 with (fail)
                 repeat (go_quiet (fail); go_upto_region 34 with (fail))
                 go_cut [310] from 293 to 310 (fun v310 wc => ∃ (kq : Nat) (x310_237 : Bool), v310 = .bool x310_237 ∧ Aside0 (ladderbackref26_Type.j11 kq 0 x310_237 a1_0 a1_1 a1_2 a1_3 l1_4 = some r) ∧ Aside0 (kq ≤ kj49) ∧ Aside0 (wc.heap[gb226]? = some (.cells #[(.slice A0_0 l0_0.length c0_0), (.slice A0_1 l0_1.length c0_1), (.slice A0_2 l0_2.length c0_2), (.slice A0_3 l0_3.length c0_3)] 37 (0, 0))) ∧ Aside0 (wc.heap[gb227]? = some (.cells #[.int .i64 a1_0, .int .i64 a1_1, .int .i64 a1_2, .int .i64 a1_3, (.slice A1_4 l1_4.length c1_4)] 30 (0, 0))) ∧ Aside0 (Below w.heap.size w wc))
                 case first =>
                  have H := HC238.out
                  clear HC238
                  by_cases c239 : (l1_4.length : Int) = 1
                  ·
                   rw [if_pos c239] at H
                   have c239b0 : ((l1_4.length : Int) == 1) = true := beq_iff_eq.mpr c239
                   have c239b1 : ((l1_4.length : Int) != 1) = false := bne_eq_false_iff_eq.mpr c239
                   clear c239
                   (first | rw [c239b0] | (simp only [i64_w, i32_w]; rw [c239b0]) | rw [c239b1] | skip)
                   by_cases c240 : a1_2 = 0
                   ·
                    rw [if_pos c240] at H
                    have c240b0 : (a1_2 == 0) = true := beq_iff_eq.mpr c240
                    have c240b1 : (a1_2 != 0) = false := bne_eq_false_iff_eq.mpr c240
                    clear c240
                    have H' := Aside0.mk H
                    clear H
                    have hnb241 := NB227_226.out
                    have hnc241 := NB226_227.out
                    obtain ⟨hcz242_0, hcz242_1, hcz242_2, hcz242_3, hcz242_4⟩ := box5_ BK227.out
                    obtain ⟨hfz242_0, hfz242_1, hfz242_2, hfz242_3, hfz242_4⟩ := frz5_ BK227.out
                    try go_wp2
                    repeat (go_quiet (fail); try go_wp2)
                    go_meet
                    case rel => exact ⟨_, ((a1_3 == 0)), (by first | rfl | (simp; done) | (simp [*]; done)), H', ⟨by have := HJ2.out; have := HJ12.out; have := HJ18.out; have := HJ49.out; first | omega | exact Nat.le_refl _⟩, ⟨by (with_reducible repeat (first | refine blk_drewN ?_ _ | refine blk_drew ?_ | refine blk_alloc ?_ _)); exact BK226.out⟩, ⟨by (with_reducible repeat (first | refine blk_drewN ?_ _ | refine blk_drew ?_ | refine blk_alloc ?_ _)); exact BK227.out⟩, ⟨by repeat (first | (with_reducible first | exact HB.out | apply below_alloc | apply pw_below_drewN | apply below_drew1 | refine below_set ?_ GE226.out | refine below_set ?_ GE227.out) | exact HB.out)⟩⟩
                   ·
                    rw [if_neg c240] at H
                    have c240b0 : (a1_2 == 0) = false := beq_eq_false_iff_ne.mpr c240
                    have c240b1 : (a1_2 != 0) = true := bne_iff_ne.mpr c240
                    have H' := Aside0.mk H
                    clear H
                    have hnb243 := NB227_226.out
                    have hnc243 := NB226_227.out
                    obtain ⟨hcz244_0, hcz244_1, hcz244_2, hcz244_3, hcz244_4⟩ := box5_ BK227.out
                    obtain ⟨hfz244_0, hfz244_1, hfz244_2, hfz244_3, hfz244_4⟩ := frz5_ BK227.out
                    try go_wp2
                    repeat (go_quiet (fail); try go_wp2)
                    go_meet
                    case rel => exact ⟨_, (false), (by first | rfl | (simp; done) | (simp [*]; done)), H', ⟨by have := HJ2.out; have := HJ12.out; have := HJ18.out; have := HJ49.out; first | omega | exact Nat.le_refl _⟩, ⟨by (with_reducible repeat (first | refine blk_drewN ?_ _ | refine blk_drew ?_ | refine blk_alloc ?_ _)); exact BK226.out⟩, ⟨by (with_reducible repeat (first | refine blk_drewN ?_ _ | refine blk_drew ?_ | refine blk_alloc ?_ _)); exact BK227.out⟩, ⟨by repeat (first | (with_reducible first | exact HB.out | apply below_alloc | apply pw_below_drewN | apply below_drew1 | refine below_set ?_ GE226.out | refine below_set ?_ GE227.out) | exact HB.out)⟩⟩
                  ·
                   rw [if_neg c239] at H
                   have c239b0 : ((l1_4.length : Int) == 1) = false := beq_eq_false_iff_ne.mpr c239
                   have c239b1 : ((l1_4.length : Int) != 1) = true := bne_iff_ne.mpr c239
                   (first | rw [c239b0] | (simp only [i64_w, i32_w]; rw [c239b0]) | rw [c239b1] | skip)
                   have H' := Aside0.mk H
                   clear H
                   try go_wp2
                   repeat (go_quiet (fail); try go_wp2)
                   go_meet
                   case rel => exact ⟨_, (false), (by first | rfl | (simp; done) | (simp [*]; done)), H', ⟨by have := HJ2.out; have := HJ12.out; have := HJ18.out; have := HJ49.out; first | omega | exact Nat.le_refl _⟩, ⟨by (with_reducible repeat (first | refine blk_drewN ?_ _ | refine blk_drew ?_ | refine blk_alloc ?_ _)); exact BK226.out⟩, ⟨by (with_reducible repeat (first | refine blk_drewN ?_ _ | refine blk_drew ?_ | refine blk_alloc ?_ _)); exact BK227.out⟩, ⟨by repeat (first | (with_reducible first | exact HB.out | apply below_alloc | apply pw_below_drewN | apply below_drew1 | refine below_set ?_ GE226.out | refine below_set ?_ GE227.out) | exact HB.out)⟩⟩
                 case rest =>
                  clear HC238
                  (try clear c167); (try clear c167b0); (try clear c167b1); (try clear c191); (try clear c191b0); (try clear c191b1); (try clear c237); (try clear c237b0); (try clear c237b1)
                  obtain ⟨kq, x310_237, rfl, HA, HJ237, BK226, BK227, HB⟩ := hcut
                  cases kq with
                  | zero => exact absurd HA.out (by simp [ladderbackref26_Type.j11])
                  | succ kj237 =>
                   have H := HA.out
                   clear HA
                   simp only [ladderbackref26_Type.j11] at H
                   by_cases c245 : x310_237 = true
                   ·
                    subst c245
                    have H1 : ((ladderbackref01_Right.f a1_1).bind fun t262 => (if t262 = true then (some a1_1) else (some 0))) = some r := by rw [if_pos rfl] at H; exact H
                    clear H
                    have H := H1
                    clear H1
                    replace H := Option.bind_eq_some_iff.mp H
                    obtain ⟨t262, A2460, H⟩ := H
                    replace H : (if t262 = true then (some a1_1) else (some 0)) = some r := H
                    have A246 := Aside0.mk A2460
                    clear A2460
                    by_cases c247 : t262 = true
                    ·
                     subst c247
                     have H1 : (some a1_1) = some r := by rw [if_pos rfl] at H; exact H
                     clear H
                     have H := H1
                     clear H1
                     obtain rfl := Option.some.inj H
                     have hnb248 := NB227_226.out
                     have hnc248 := NB226_227.out
                     obtain ⟨hcz249_0, hcz249_1, hcz249_2, hcz249_3, hcz249_4⟩ := box5_ BK227.out
                     obtain ⟨hfz249_0, hfz249_1, hfz249_2, hfz249_3, hfz249_4⟩ := frz5_ BK227.out
                     try go_wp2_with (first | ((with_reducible refine gate_callee (f := 66) rfl ?_); refine goesL_ (some 314) rfl rfl Tryd.func66 (by kernel_rfl) rfl #[.int .i64 a1_1] rfl (by (try simp only [List.map_toArray, List.map_cons, List.map_nil]); first | done | rfl | (simp only [List.length_drop, List.length_take]; rfl)) ?_; (with_reducible refine (ladderbackref01_Right.calls a1_1 true _ A246.out).mono ?_); rintro e w' ⟨rfl, ⟨nd, rfl⟩⟩; refine ⟨_, rfl, ?_⟩))
                     repeat (go_quiet (fail); try go_wp2_with (first | ((with_reducible refine gate_callee (f := 66) rfl ?_); refine goesL_ (some 314) rfl rfl Tryd.func66 (by kernel_rfl) rfl #[.int .i64 a1_1] rfl (by (try simp only [List.map_toArray, List.map_cons, List.map_nil]); first | done | rfl | (simp only [List.length_drop, List.length_take]; rfl)) ?_; (with_reducible refine (ladderbackref01_Right.calls a1_1 true _ A246.out).mono ?_); rintro e w' ⟨rfl, ⟨nd, rfl⟩⟩; refine ⟨_, rfl, ?_⟩)))
                     go_ret
                     exact ⟨by first | rfl | (simp [errW_none, errW_some] <;> rfl) | (simp [*, errW_none, errW_some] <;> rfl), by repeat (first | (with_reducible first | exact HB.out | apply below_alloc | apply pw_below_drewN | apply below_drew1 | refine below_set ?_ GE226.out | refine below_set ?_ GE227.out) | exact HB.out)⟩
                    ·
                     replace c247 := Bool.eq_false_iff.mpr c247
                     subst c247
                     have H1 : (some 0) = some r := by rw [if_neg (show ¬ (false = true) by decide)] at H; exact H
                     clear H
                     have H := H1
                     clear H1
                     obtain rfl := Option.some.inj H
                     have hnb250 := NB227_226.out
                     have hnc250 := NB226_227.out
                     obtain ⟨hcz251_0, hcz251_1, hcz251_2, hcz251_3, hcz251_4⟩ := box5_ BK227.out
                     obtain ⟨hfz251_0, hfz251_1, hfz251_2, hfz251_3, hfz251_4⟩ := frz5_ BK227.out
                     try go_wp2_with (first | ((with_reducible refine gate_callee (f := 66) rfl ?_); refine goesL_ (some 314) rfl rfl Tryd.func66 (by kernel_rfl) rfl #[.int .i64 a1_1] rfl (by (try simp only [List.map_toArray, List.map_cons, List.map_nil]); first | done | rfl | (simp only [List.length_drop, List.length_take]; rfl)) ?_; (with_reducible refine (ladderbackref01_Right.calls a1_1 false _ A246.out).mono ?_); rintro e w' ⟨rfl, ⟨nd, rfl⟩⟩; refine ⟨_, rfl, ?_⟩))
                     repeat (go_quiet (fail); try go_wp2_with (first | ((with_reducible refine gate_callee (f := 66) rfl ?_); refine goesL_ (some 314) rfl rfl Tryd.func66 (by kernel_rfl) rfl #[.int .i64 a1_1] rfl (by (try simp only [List.map_toArray, List.map_cons, List.map_nil]); first | done | rfl | (simp only [List.length_drop, List.length_take]; rfl)) ?_; (with_reducible refine (ladderbackref01_Right.calls a1_1 false _ A246.out).mono ?_); rintro e w' ⟨rfl, ⟨nd, rfl⟩⟩; refine ⟨_, rfl, ?_⟩)))
                     go_ret
                     exact ⟨by first | rfl | (simp [errW_none, errW_some] <;> rfl) | (simp [*, errW_none, errW_some] <;> rfl), by repeat (first | (with_reducible first | exact HB.out | apply below_alloc | apply pw_below_drewN | apply below_drew1 | refine below_set ?_ GE226.out | refine below_set ?_ GE227.out) | exact HB.out)⟩
                   ·
                    replace c245 := Bool.eq_false_iff.mpr c245
                    subst c245
                    have H1 : ((ladderbackref01_Right.f 0).bind fun t263 => (if t263 = true then (some 0) else (some 0))) = some r := by rw [if_neg (show ¬ (false = true) by decide)] at H; exact H
                    clear H
                    have H := H1
                    clear H1
                    replace H := Option.bind_eq_some_iff.mp H
                    obtain ⟨t263, A2520, H⟩ := H
                    replace H : (if t263 = true then (some 0) else (some 0)) = some r := H
                    have A252 := Aside0.mk A2520
                    clear A2520
                    by_cases c253 : t263 = true
                    ·
                     subst c253
                     have H1 : (some 0) = some r := by rw [if_pos rfl] at H; exact H
                     clear H
                     have H := H1
                     clear H1
                     obtain rfl := Option.some.inj H
                     try go_wp2_with (first | ((with_reducible refine gate_callee (f := 66) rfl ?_); refine goesL_ (some 314) rfl rfl Tryd.func66 (by kernel_rfl) rfl #[.int .i64 0] rfl (by (try simp only [List.map_toArray, List.map_cons, List.map_nil]); first | done | rfl | (simp only [List.length_drop, List.length_take]; rfl)) ?_; (with_reducible refine (ladderbackref01_Right.calls 0 true _ A252.out).mono ?_); rintro e w' ⟨rfl, ⟨nd, rfl⟩⟩; refine ⟨_, rfl, ?_⟩))
                     repeat (go_quiet (fail); try go_wp2_with (first | ((with_reducible refine gate_callee (f := 66) rfl ?_); refine goesL_ (some 314) rfl rfl Tryd.func66 (by kernel_rfl) rfl #[.int .i64 0] rfl (by (try simp only [List.map_toArray, List.map_cons, List.map_nil]); first | done | rfl | (simp only [List.length_drop, List.length_take]; rfl)) ?_; (with_reducible refine (ladderbackref01_Right.calls 0 true _ A252.out).mono ?_); rintro e w' ⟨rfl, ⟨nd, rfl⟩⟩; refine ⟨_, rfl, ?_⟩)))
                     go_ret
                     exact ⟨by first | rfl | (simp [errW_none, errW_some] <;> rfl) | (simp [*, errW_none, errW_some] <;> rfl), by repeat (first | (with_reducible first | exact HB.out | apply below_alloc | apply pw_below_drewN | apply below_drew1 | refine below_set ?_ GE226.out | refine below_set ?_ GE227.out) | exact HB.out)⟩
                    ·
                     replace c253 := Bool.eq_false_iff.mpr c253
                     subst c253
                     have H1 : (some 0) = some r := by rw [if_neg (show ¬ (false = true) by decide)] at H; exact H
                     clear H
                     have H := H1
                     clear H1
                     obtain rfl := Option.some.inj H
                     try go_wp2_with (first | ((with_reducible refine gate_callee (f := 66) rfl ?_); refine goesL_ (some 314) rfl rfl Tryd.func66 (by kernel_rfl) rfl #[.int .i64 0] rfl (by (try simp only [List.map_toArray, List.map_cons, List.map_nil]); first | done | rfl | (simp only [List.length_drop, List.length_take]; rfl)) ?_; (with_reducible refine (ladderbackref01_Right.calls 0 false _ A252.out).mono ?_); rintro e w' ⟨rfl, ⟨nd, rfl⟩⟩; refine ⟨_, rfl, ?_⟩))
                     repeat (go_quiet (fail); try go_wp2_with (first | ((with_reducible refine gate_callee (f := 66) rfl ?_); refine goesL_ (some 314) rfl rfl Tryd.func66 (by kernel_rfl) rfl #[.int .i64 0] rfl (by (try simp only [List.map_toArray, List.map_cons, List.map_nil]); first | done | rfl | (simp only [List.length_drop, List.length_take]; rfl)) ?_; (with_reducible refine (ladderbackref01_Right.calls 0 false _ A252.out).mono ?_); rintro e w' ⟨rfl, ⟨nd, rfl⟩⟩; refine ⟨_, rfl, ?_⟩)))
                     go_ret
                     exact ⟨by first | rfl | (simp [errW_none, errW_some] <;> rfl) | (simp [*, errW_none, errW_some] <;> rfl), by repeat (first | (with_reducible first | exact HB.out | apply below_alloc | apply pw_below_drewN | apply below_drew1 | refine below_set ?_ GE226.out | refine below_set ?_ GE227.out) | exact HB.out)⟩
                ·
                 rw [if_neg c237] at H
                 have c237b0 : (a1_0 == 8) = false := beq_eq_false_iff_ne.mpr c237
                 have c237b1 : (a1_0 != 8) = true := bne_iff_ne.mpr c237
                 replace H := Option.bind_eq_some_iff.mp H
                 obtain ⟨t264, A2540, H⟩ := H
                 replace H : (if t264 = true then (some 0) else (some 0)) = some r := H
                 have A254 := Aside0.mk A2540
                 clear A2540
                 by_cases c255 : t264 = true
                 ·
                  subst c255
                  have H1 : (some 0) = some r := by rw [if_pos rfl] at H; exact H
                  clear H
                  have H := H1
                  clear H1
                  obtain rfl := Option.some.inj H
                  try go_wp2_with (first | ((with_reducible refine gate_callee (f := 66) rfl ?_); refine goesL_ (some 314) rfl rfl Tryd.func66 (by kernel_rfl) rfl #[.int .i64 0] rfl (by (try simp only [List.map_toArray, List.map_cons, List.map_nil]); first | done | rfl | (simp only [List.length_drop, List.length_take]; rfl)) ?_; (with_reducible refine (ladderbackref01_Right.calls 0 true _ A254.out).mono ?_); rintro e w' ⟨rfl, ⟨nd, rfl⟩⟩; refine ⟨_, rfl, ?_⟩))
                  repeat (go_quiet (fail); try go_wp2_with (first | ((with_reducible refine gate_callee (f := 66) rfl ?_); refine goesL_ (some 314) rfl rfl Tryd.func66 (by kernel_rfl) rfl #[.int .i64 0] rfl (by (try simp only [List.map_toArray, List.map_cons, List.map_nil]); first | done | rfl | (simp only [List.length_drop, List.length_take]; rfl)) ?_; (with_reducible refine (ladderbackref01_Right.calls 0 true _ A254.out).mono ?_); rintro e w' ⟨rfl, ⟨nd, rfl⟩⟩; refine ⟨_, rfl, ?_⟩)))
                  go_ret
                  exact ⟨by first | rfl | (simp [errW_none, errW_some] <;> rfl) | (simp [*, errW_none, errW_some] <;> rfl), by repeat (first | (with_reducible first | exact HB.out | apply below_alloc | apply pw_below_drewN | apply below_drew1 | refine below_set ?_ GE226.out | refine below_set ?_ GE227.out) | exact HB.out)⟩
                 ·
                  replace c255 := Bool.eq_false_iff.mpr c255
                  subst c255
                  have H1 : (some 0) = some r := by rw [if_neg (show ¬ (false = true) by decide)] at H; exact H
                  clear H
                  have H := H1
                  clear H1
                  obtain rfl := Option.some.inj H
                  try go_wp2_with (first | ((with_reducible refine gate_callee (f := 66) rfl ?_); refine goesL_ (some 314) rfl rfl Tryd.func66 (by kernel_rfl) rfl #[.int .i64 0] rfl (by (try simp only [List.map_toArray, List.map_cons, List.map_nil]); first | done | rfl | (simp only [List.length_drop, List.length_take]; rfl)) ?_; (with_reducible refine (ladderbackref01_Right.calls 0 false _ A254.out).mono ?_); rintro e w' ⟨rfl, ⟨nd, rfl⟩⟩; refine ⟨_, rfl, ?_⟩))
                  repeat (go_quiet (fail); try go_wp2_with (first | ((with_reducible refine gate_callee (f := 66) rfl ?_); refine goesL_ (some 314) rfl rfl Tryd.func66 (by kernel_rfl) rfl #[.int .i64 0] rfl (by (try simp only [List.map_toArray, List.map_cons, List.map_nil]); first | done | rfl | (simp only [List.length_drop, List.length_take]; rfl)) ?_; (with_reducible refine (ladderbackref01_Right.calls 0 false _ A254.out).mono ?_); rintro e w' ⟨rfl, ⟨nd, rfl⟩⟩; refine ⟨_, rfl, ?_⟩)))
                  go_ret
                  exact ⟨by first | rfl | (simp [errW_none, errW_some] <;> rfl) | (simp [*, errW_none, errW_some] <;> rfl), by repeat (first | (with_reducible first | exact HB.out | apply below_alloc | apply pw_below_drewN | apply below_drew1 | refine below_set ?_ GE226.out | refine below_set ?_ GE227.out) | exact HB.out)⟩

end Go.Proofs.YtfioegoeeflkbaaDoor.QExprTypes
