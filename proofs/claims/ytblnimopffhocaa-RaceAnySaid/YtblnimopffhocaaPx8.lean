/- The walks of the functions that a law reaches, or the law's row: printed by a program of this session (wip/xprint.py) that drives the kit's printer with contracts of its own. -/
import Derived.Test.YtblnimopffhocaaPx0
import Derived.Test.YtblnimopffhocaaRHand10
import Derived.Test.YtblnimopffhocaaPx5
namespace Go.Proofs.Ytblnimopffhocaa.P
open Go.RowKit Go.Proofs.YtblnimopffhocaaW.PrintWords Go.Proofs.YtblnimopffhocaaW.PrintLast Go.Proofs.YtblnimopffhocaaW.PrintMore Go.Proofs.YtblnimopffhocaaX
attribute [local go_sem] max2_int min2_int max_two min_two max_three min_three max_four min_four
set_option linter.unusedVariables false
set_option linter.unusedSimpArgs false
mutual
def interlockref08_Find.l0 : Nat → List (S40) → Int → Int → Int → Int → List Int → Int → Int → List (List (S25)) → Option ((List (S55)))
 | 0, _, _, _, _, _, _, _, _, _ => none
 | k + 1, x1, x6, x202000, x202001, x202002, x202003, x202004, x202005, x202006 => if x6 < (x1.length : Int) then (if (x1.length : Int) > 2000 then (some ([] : List (S55))) else (if 0 ≤ x6 then (if ((rd_T40 x1 x6).f0) < 0 then (some ([] : List (S55))) else (if ((rd_T40 x1 x6).f0) > 5 then (some ([] : List (S55))) else (interlockref08_Find.l0 k x1 (wrap64 (x6 + 1)) x202000 x202001 x202002 x202003 x202004 x202005 x202006))) else (none))) else (interlockref08_Find.l1 k x1 ([] : List (S55)) 0 x202000 x202001 x202002 x202003 x202004 x202005 x202006)
def interlockref08_Find.l1 : Nat → List (S40) → List (S55) → Int → Int → Int → Int → List Int → Int → Int → List (List (S25)) → Option ((List (S55)))
 | 0, _, _, _, _, _, _, _, _, _, _ => none
 | k + 1, x1, x5, x7, x202000, x202001, x202002, x202003, x202004, x202005, x202006 => if x7 < (x1.length : Int) then (if 0 ≤ x7 then (if ((rd_T40 x1 x7).f2) = 7 then (interlockref08_Find.j2 k x1 x5 x7 false x202000 x202001 x202002 x202003 x202004 x202005 x202006) else (interlockref08_Find.j2 k x1 x5 x7 (((rd_T40 x1 x7).f2) != 8) x202000 x202001 x202002 x202003 x202004 x202005 x202006)) else (none)) else (some x5)
def interlockref08_Find.j2 : Nat → List (S40) → List (S55) → Int → Bool → Int → Int → Int → List Int → Int → Int → List (List (S25)) → Option ((List (S55)))
 | 0, _, _, _, _, _, _, _, _, _, _, _ => none
 | k + 1, x1, x5, x7, x56, x202000, x202001, x202002, x202003, x202004, x202005, x202006 => if x56 = true then (interlockref08_Find.l1 k x1 x5 (wrap64 (x7 + 1)) x202000 x202001 x202002 x202003 x202004 x202005 x202006) else ((interlockref07_Marks.f k x202000 x202001 x202002 x202003 x202004 x202005 x202006 x1 x7).bind fun t206 => (interlockref08_Find.l2 k x1 x5 x7 t206 0 x202000 x202001 x202002 x202003 x202004 x202005 x202006))
def interlockref08_Find.l2 : Nat → List (S40) → List (S55) → Int → List Int → Int → Int → Int → Int → List Int → Int → Int → List (List (S25)) → Option ((List (S55)))
 | 0, _, _, _, _, _, _, _, _, _, _, _, _ => none
 | k + 1, x1, x5, x7, x8, x9, x202000, x202001, x202002, x202003, x202004, x202005, x202006 => if x9 < 6 then (interlockref08_Find.l3 k x1 x5 x7 x8 x9 (-1) 0 x202000 x202001 x202002 x202003 x202004 x202005 x202006) else (interlockref08_Find.l1 k x1 x5 (wrap64 (x7 + 1)) x202000 x202001 x202002 x202003 x202004 x202005 x202006)
def interlockref08_Find.l3 : Nat → List (S40) → List (S55) → Int → List Int → Int → Int → Int → Int → Int → Int → List Int → Int → Int → List (List (S25)) → Option ((List (S55)))
 | 0, _, _, _, _, _, _, _, _, _, _, _, _, _, _ => none
 | k + 1, x1, x5, x7, x8, x9, x10, x11, x202000, x202001, x202002, x202003, x202004, x202005, x202006 => if x11 < x7 then (if 0 ≤ x11 then (if x11 < (x1.length : Int) then (if ((rd_T40 x1 x11).f0) = x9 then (if 0 ≤ x7 then (if x7 < (x1.length : Int) then ((interlockref08_Conflict.f ((rd_T40 x1 x11).f0) ((rd_T40 x1 x11).f1) ((rd_T40 x1 x11).f2) ((rd_T40 x1 x11).f3) ((rd_T40 x1 x11).f4) ((rd_T40 x1 x11).f5) ((rd_T40 x1 x7).f0) ((rd_T40 x1 x7).f1) ((rd_T40 x1 x7).f2) ((rd_T40 x1 x7).f3) ((rd_T40 x1 x7).f4) ((rd_T40 x1 x7).f5)).bind fun t212 => (if t212 = true then (interlockref08_Find.l3 k x1 x5 x7 x8 x9 x11 (wrap64 (x11 + 1)) x202000 x202001 x202002 x202003 x202004 x202005 x202006) else (interlockref08_Find.l3 k x1 x5 x7 x8 x9 x10 (wrap64 (x11 + 1)) x202000 x202001 x202002 x202003 x202004 x202005 x202006))) else (none)) else (none)) else (interlockref08_Find.l3 k x1 x5 x7 x8 x9 x10 (wrap64 (x11 + 1)) x202000 x202001 x202002 x202003 x202004 x202005 x202006)) else (none)) else (none)) else (if x10 ≥ 0 then (if 0 ≤ x10 then (if x10 < (x8.length : Int) then (if (rd x8 x10) = 0 then (if x5.length < 8796093022208 then (interlockref08_Find.l2 k x1 (x5 ++ [(⟨x10, x7⟩ : S55)]) x7 x8 (wrap64 (x9 + 1)) x202000 x202001 x202002 x202003 x202004 x202005 x202006) else (none)) else (interlockref08_Find.l2 k x1 x5 x7 x8 (wrap64 (x9 + 1)) x202000 x202001 x202002 x202003 x202004 x202005 x202006)) else (none)) else (none)) else (interlockref08_Find.l2 k x1 x5 x7 x8 (wrap64 (x9 + 1)) x202000 x202001 x202002 x202003 x202004 x202005 x202006))
end
end Go.Proofs.Ytblnimopffhocaa.P
