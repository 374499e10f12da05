/- The walks of the functions that a law reaches, or the law's row: printed by a program of this session (wip/xprint.py) that drives the kit's printer with contracts of its own. -/
import Derived.Test.YtojkeabecjlaeaaXBits
import Derived.Test.YtojkeabecjlaeaaPx0
import Derived.Test.YtojkeabecjlaeaaOHand9
import Derived.Test.YtojkeabecjlaeaaPx1
import Derived.Test.YtojkeabecjlaeaaPx2
namespace Go.Proofs.Ytojkeabecjlaeaa.P
open Go.RowKit Go.Proofs.YtojkeabecjlaeaaW.PrintWords Go.Proofs.YtojkeabecjlaeaaW.PrintLast Go.Proofs.YtojkeabecjlaeaaW.PrintMore Go.Proofs.YtojkeabecjlaeaaX
attribute [local go_sem] max2_int min2_int max_two min_two max_three min_three max_four min_four
set_option linter.unusedVariables false
set_option linter.unusedSimpArgs false
mutual
def interlockref07_Direct.j0 : Nat → List (S24) → Int → Int → Bool → Int → Int → Int → List Int → Int → Int → List (List (S34)) → Option (Bool)
 | 0, _, _, _, _, _, _, _, _, _, _, _ => none
 | k + 1, x1, x2, x3, x24, x144000, x144001, x144002, x144003, x144004, x144005, x144006 => if x24 = true then (some false) else (if 0 ≤ x2 then (if x2 < (x1.length : Int) then (if 0 ≤ x3 then (if x3 < (x1.length : Int) then (if ((rd_T24 x1 x2).f0) = ((rd_T24 x1 x3).f0) then (interlockref07_Direct.j1 k x1 x2 x3 true x144000 x144001 x144002 x144003 x144004 x144005 x144006 ((rd_T24 x1 x2).f0) ((rd_T24 x1 x2).f1) ((rd_T24 x1 x2).f2) ((rd_T24 x1 x2).f3) ((rd_T24 x1 x2).f4) ((rd_T24 x1 x2).f5) ((rd_T24 x1 x3).f0) ((rd_T24 x1 x3).f1) ((rd_T24 x1 x3).f2) ((rd_T24 x1 x3).f3) ((rd_T24 x1 x3).f4) ((rd_T24 x1 x3).f5)) else (if ((rd_T24 x1 x2).f2) = 12 then (interlockref07_Direct.j1 k x1 x2 x3 (((rd_T24 x1 x2).f3) == ((rd_T24 x1 x3).f0)) x144000 x144001 x144002 x144003 x144004 x144005 x144006 ((rd_T24 x1 x2).f0) ((rd_T24 x1 x2).f1) ((rd_T24 x1 x2).f2) ((rd_T24 x1 x2).f3) ((rd_T24 x1 x2).f4) ((rd_T24 x1 x2).f5) ((rd_T24 x1 x3).f0) ((rd_T24 x1 x3).f1) ((rd_T24 x1 x3).f2) ((rd_T24 x1 x3).f3) ((rd_T24 x1 x3).f4) ((rd_T24 x1 x3).f5)) else (interlockref07_Direct.j1 k x1 x2 x3 false x144000 x144001 x144002 x144003 x144004 x144005 x144006 ((rd_T24 x1 x2).f0) ((rd_T24 x1 x2).f1) ((rd_T24 x1 x2).f2) ((rd_T24 x1 x2).f3) ((rd_T24 x1 x2).f4) ((rd_T24 x1 x2).f5) ((rd_T24 x1 x3).f0) ((rd_T24 x1 x3).f1) ((rd_T24 x1 x3).f2) ((rd_T24 x1 x3).f3) ((rd_T24 x1 x3).f4) ((rd_T24 x1 x3).f5)))) else (none)) else (none)) else (none)) else (none))
def interlockref07_Direct.j1 : Nat → List (S24) → Int → Int → Bool → Int → Int → Int → List Int → Int → Int → List (List (S34)) → Int → Int → Int → Int → Int → Int → Int → Int → Int → Int → Int → Int → Option (Bool)
 | 0, _, _, _, _, _, _, _, _, _, _, _, _, _, _, _, _, _, _, _, _, _, _, _ => none
 | k + 1, x1, x2, x3, x49, x144000, x144001, x144002, x144003, x144004, x144005, x144006, x146000, x146001, x146002, x146003, x146004, x146005, x148000, x148001, x148002, x148003, x148004, x148005 => if x49 = true then (some true) else (if x146003 = x148003 then (if x148002 = 21 then (interlockref07_Direct.j2 k x1 x2 x3 (x148005 == 2) x144000 x144001 x144002 x144003 x144004 x144005 x144006 x146000 x146001 x146002 x146003 x146004 x146005 x148000 x148001 x148002 x148003 x148004 x148005) else (if x148002 = 22 then (interlockref07_Direct.j2 k x1 x2 x3 (x148005 == 2) x144000 x144001 x144002 x144003 x144004 x144005 x144006 x146000 x146001 x146002 x146003 x146004 x146005 x148000 x148001 x148002 x148003 x148004 x148005) else (interlockref07_Direct.j2 k x1 x2 x3 false x144000 x144001 x144002 x144003 x144004 x144005 x144006 x146000 x146001 x146002 x146003 x146004 x146005 x148000 x148001 x148002 x148003 x148004 x148005))) else (some false))
def interlockref07_Direct.j2 : Nat → List (S24) → Int → Int → Bool → Int → Int → Int → List Int → Int → Int → List (List (S34)) → Int → Int → Int → Int → Int → Int → Int → Int → Int → Int → Int → Int → Option (Bool)
 | 0, _, _, _, _, _, _, _, _, _, _, _, _, _, _, _, _, _, _, _, _, _, _, _ => none
 | k + 1, x1, x2, x3, x11, x144000, x144001, x144002, x144003, x144004, x144005, x144006, x146000, x146001, x146002, x146003, x146004, x146005, x148000, x148001, x148002, x148003, x148004, x148005 => if x146002 = 14 then (if x148002 = 13 then (some true) else (some (x148002 == 15))) else (if x146002 = 16 then (some (x148002 == 13)) else (if x146002 = 18 then (interlockref07_Direct.j3 k x1 x2 x3 x11 x146002 (x146002 == 18) x144000 x144001 x144002 x144003 x144004 x144005 x144006 x146000 x146001 x146002 x146003 x146004 x146005 x148000 x148001 x148002 x148003 x148004 x148005) else (interlockref07_Direct.j3 k x1 x2 x3 x11 x146002 (x146002 == 19) x144000 x144001 x144002 x144003 x144004 x144005 x144006 x146000 x146001 x146002 x146003 x146004 x146005 x148000 x148001 x148002 x148003 x148004 x148005)))
def interlockref07_Direct.j3 : Nat → List (S24) → Int → Int → Bool → Int → Bool → Int → Int → Int → List Int → Int → Int → List (List (S34)) → Int → Int → Int → Int → Int → Int → Int → Int → Int → Int → Int → Int → Option (Bool)
 | 0, _, _, _, _, _, _, _, _, _, _, _, _, _, _, _, _, _, _, _, _, _, _, _, _, _ => none
 | k + 1, x1, x2, x3, x11, x69, x85, x144000, x144001, x144002, x144003, x144004, x144005, x144006, x146000, x146001, x146002, x146003, x146004, x146005, x148000, x148001, x148002, x148003, x148004, x148005 => if x85 = true then (if x148002 = 17 then ((interlockref07_writes.f k x1 x2 x3).bind fun t148 => (some (!t148))) else (if x148002 = 19 then ((interlockref07_writes.f k x1 x2 x3).bind fun t149 => (some (!t149))) else (some false))) else (if x69 = 20 then ((interlockref07_taking.f x148000 x148001 x148002 x148003 x148004 x148005).bind fun t150 => (if t150 = true then ((interlockref07_sends.f k x1 x146003 x2).bind fun t151 => ((interlockref07_takings.f k x1 x146003 x3).bind fun t152 => (some (t151 == t152)))) else (some false))) else (if x69 = 23 then (some x11) else (if x69 = 24 then (if x146004 < 0 then (some (x148002 == 25)) else (some false)) else (if x69 = 27 then (if x148002 = 26 then (some (x148005 == 0)) else (some false)) else ((interlockref07_taking.f x146000 x146001 x146002 x146003 x146004 x146005).bind fun t153 => (if t153 = true then (if x148002 = 20 then ((interlockref07_takings.f k x1 x146003 x2).bind fun t154 => ((interlockref07_room.f x144000 x144001 x144002 x144003 x144004 x144005 x144006 x146003).bind fun t155 => ((interlockref07_sends.f k x1 x146003 x3).bind fun t156 => (some ((wrap64 (t154 + t155)) == t156))))) else (some false)) else (some false)))))))
end
def interlockref07_Direct.f (k : Nat) (a0_0 : Int) (a0_1 : Int) (a0_2 : Int) (l0_3 : List Int) (a0_4 : Int) (a0_5 : Int) (l0_6 : List (List (S34))) (l1 : List (S24)) (a2 : Int) (a3 : Int) : Option (Bool) := if a2 < 0 then (interlockref07_Direct.j0 k l1 a2 a3 true a0_0 a0_1 a0_2 l0_3 a0_4 a0_5 l0_6) else (if a2 ≥ a3 then (interlockref07_Direct.j0 k l1 a2 a3 true a0_0 a0_1 a0_2 l0_3 a0_4 a0_5 l0_6) else (interlockref07_Direct.j0 k l1 a2 a3 (decide (a3 ≥ (l1.length : Int))) a0_0 a0_1 a0_2 l0_3 a0_4 a0_5 l0_6))
theorem interlockref07_Direct.mono_l : ∀ k, (∀ y0 y1 y2 y3 y4 y5 y6 y7 y8 y9 y10, LeO (interlockref07_Direct.j0 k y0 y1 y2 y3 y4 y5 y6 y7 y8 y9 y10) (interlockref07_Direct.j0 (k + 1) y0 y1 y2 y3 y4 y5 y6 y7 y8 y9 y10)) ∧ (∀ y0 y1 y2 y3 y4 y5 y6 y7 y8 y9 y10 y11 y12 y13 y14 y15 y16 y17 y18 y19 y20 y21 y22, LeO (interlockref07_Direct.j1 k y0 y1 y2 y3 y4 y5 y6 y7 y8 y9 y10 y11 y12 y13 y14 y15 y16 y17 y18 y19 y20 y21 y22) (interlockref07_Direct.j1 (k + 1) y0 y1 y2 y3 y4 y5 y6 y7 y8 y9 y10 y11 y12 y13 y14 y15 y16 y17 y18 y19 y20 y21 y22)) ∧ (∀ y0 y1 y2 y3 y4 y5 y6 y7 y8 y9 y10 y11 y12 y13 y14 y15 y16 y17 y18 y19 y20 y21 y22, LeO (interlockref07_Direct.j2 k y0 y1 y2 y3 y4 y5 y6 y7 y8 y9 y10 y11 y12 y13 y14 y15 y16 y17 y18 y19 y20 y21 y22) (interlockref07_Direct.j2 (k + 1) y0 y1 y2 y3 y4 y5 y6 y7 y8 y9 y10 y11 y12 y13 y14 y15 y16 y17 y18 y19 y20 y21 y22)) ∧ (∀ y0 y1 y2 y3 y4 y5 y6 y7 y8 y9 y10 y11 y12 y13 y14 y15 y16 y17 y18 y19 y20 y21 y22 y23 y24, LeO (interlockref07_Direct.j3 k y0 y1 y2 y3 y4 y5 y6 y7 y8 y9 y10 y11 y12 y13 y14 y15 y16 y17 y18 y19 y20 y21 y22 y23 y24) (interlockref07_Direct.j3 (k + 1) y0 y1 y2 y3 y4 y5 y6 y7 y8 y9 y10 y11 y12 y13 y14 y15 y16 y17 y18 y19 y20 y21 y22 y23 y24))
 | 0 => ⟨fun _ _ _ _ _ _ _ _ _ _ _ r h => by simp [interlockref07_Direct.j0] at h, fun _ _ _ _ _ _ _ _ _ _ _ _ _ _ _ _ _ _ _ _ _ _ _ r h => by simp [interlockref07_Direct.j1] at h, fun _ _ _ _ _ _ _ _ _ _ _ _ _ _ _ _ _ _ _ _ _ _ _ r h => by simp [interlockref07_Direct.j2] at h, fun _ _ _ _ _ _ _ _ _ _ _ _ _ _ _ _ _ _ _ _ _ _ _ _ _ r h => by simp [interlockref07_Direct.j3] at h⟩
 | k + 1 => by
  obtain ⟨ih0, ih1, ih2, ih3⟩ := interlockref07_Direct.mono_l k
  refine ⟨?_, ?_, ?_, ?_⟩
  · intro y0 y1 y2 y3 y4 y5 y6 y7 y8 y9 y10
    unfold interlockref07_Direct.j0
    repeat' first
    | (with_reducible exact ih0 _ _ _ _ _ _ _ _ _ _ _)
    | (with_reducible exact ih1 _ _ _ _ _ _ _ _ _ _ _ _ _ _ _ _ _ _ _ _ _ _ _)
    | (with_reducible exact ih2 _ _ _ _ _ _ _ _ _ _ _ _ _ _ _ _ _ _ _ _ _ _ _)
    | (with_reducible exact ih3 _ _ _ _ _ _ _ _ _ _ _ _ _ _ _ _ _ _ _ _ _ _ _ _ _)
    | (with_reducible exact interlockref07_sends.mono _ _ _ _)
    | (with_reducible exact interlockref07_takings.mono _ _ _ _)
    | (with_reducible exact interlockref07_writes.mono _ _ _ _)
    | (with_reducible exact LeO.refl _)
    | (with_reducible exact LeO.none _)
    | (with_reducible refine LeO.ite ?_ ?_)
    | (with_reducible refine LeO.bind ?_ (fun _ => ?_))
    | exact ih0 _ _ _ _ _ _ _ _ _ _ _
    | exact ih1 _ _ _ _ _ _ _ _ _ _ _ _ _ _ _ _ _ _ _ _ _ _ _
    | exact ih2 _ _ _ _ _ _ _ _ _ _ _ _ _ _ _ _ _ _ _ _ _ _ _
    | exact ih3 _ _ _ _ _ _ _ _ _ _ _ _ _ _ _ _ _ _ _ _ _ _ _ _ _
    | exact interlockref07_sends.mono _ _ _ _
    | exact interlockref07_takings.mono _ _ _ _
    | exact interlockref07_writes.mono _ _ _ _
    | exact LeO.none _
    | refine LeO.ite ?_ ?_
    | refine LeO.bind ?_ (fun _ => ?_)
  · intro y0 y1 y2 y3 y4 y5 y6 y7 y8 y9 y10 y11 y12 y13 y14 y15 y16 y17 y18 y19 y20 y21 y22
    unfold interlockref07_Direct.j1
    repeat' first
    | (with_reducible exact ih0 _ _ _ _ _ _ _ _ _ _ _)
    | (with_reducible exact ih1 _ _ _ _ _ _ _ _ _ _ _ _ _ _ _ _ _ _ _ _ _ _ _)
    | (with_reducible exact ih2 _ _ _ _ _ _ _ _ _ _ _ _ _ _ _ _ _ _ _ _ _ _ _)
    | (with_reducible exact ih3 _ _ _ _ _ _ _ _ _ _ _ _ _ _ _ _ _ _ _ _ _ _ _ _ _)
    | (with_reducible exact interlockref07_sends.mono _ _ _ _)
    | (with_reducible exact interlockref07_takings.mono _ _ _ _)
    | (with_reducible exact interlockref07_writes.mono _ _ _ _)
    | (with_reducible exact LeO.refl _)
    | (with_reducible exact LeO.none _)
    | (with_reducible refine LeO.ite ?_ ?_)
    | (with_reducible refine LeO.bind ?_ (fun _ => ?_))
    | exact ih0 _ _ _ _ _ _ _ _ _ _ _
    | exact ih1 _ _ _ _ _ _ _ _ _ _ _ _ _ _ _ _ _ _ _ _ _ _ _
    | exact ih2 _ _ _ _ _ _ _ _ _ _ _ _ _ _ _ _ _ _ _ _ _ _ _
    | exact ih3 _ _ _ _ _ _ _ _ _ _ _ _ _ _ _ _ _ _ _ _ _ _ _ _ _
    | exact interlockref07_sends.mono _ _ _ _
    | exact interlockref07_takings.mono _ _ _ _
    | exact interlockref07_writes.mono _ _ _ _
    | exact LeO.none _
    | refine LeO.ite ?_ ?_
    | refine LeO.bind ?_ (fun _ => ?_)
  · intro y0 y1 y2 y3 y4 y5 y6 y7 y8 y9 y10 y11 y12 y13 y14 y15 y16 y17 y18 y19 y20 y21 y22
    unfold interlockref07_Direct.j2
    repeat' first
    | (with_reducible exact ih0 _ _ _ _ _ _ _ _ _ _ _)
    | (with_reducible exact ih1 _ _ _ _ _ _ _ _ _ _ _ _ _ _ _ _ _ _ _ _ _ _ _)
    | (with_reducible exact ih2 _ _ _ _ _ _ _ _ _ _ _ _ _ _ _ _ _ _ _ _ _ _ _)
    | (with_reducible exact ih3 _ _ _ _ _ _ _ _ _ _ _ _ _ _ _ _ _ _ _ _ _ _ _ _ _)
    | (with_reducible exact interlockref07_sends.mono _ _ _ _)
    | (with_reducible exact interlockref07_takings.mono _ _ _ _)
    | (with_reducible exact interlockref07_writes.mono _ _ _ _)
    | (with_reducible exact LeO.refl _)
    | (with_reducible exact LeO.none _)
    | (with_reducible refine LeO.ite ?_ ?_)
    | (with_reducible refine LeO.bind ?_ (fun _ => ?_))
    | exact ih0 _ _ _ _ _ _ _ _ _ _ _
    | exact ih1 _ _ _ _ _ _ _ _ _ _ _ _ _ _ _ _ _ _ _ _ _ _ _
    | exact ih2 _ _ _ _ _ _ _ _ _ _ _ _ _ _ _ _ _ _ _ _ _ _ _
    | exact ih3 _ _ _ _ _ _ _ _ _ _ _ _ _ _ _ _ _ _ _ _ _ _ _ _ _
    | exact interlockref07_sends.mono _ _ _ _
    | exact interlockref07_takings.mono _ _ _ _
    | exact interlockref07_writes.mono _ _ _ _
    | exact LeO.none _
    | refine LeO.ite ?_ ?_
    | refine LeO.bind ?_ (fun _ => ?_)
  · intro y0 y1 y2 y3 y4 y5 y6 y7 y8 y9 y10 y11 y12 y13 y14 y15 y16 y17 y18 y19 y20 y21 y22 y23 y24
    unfold interlockref07_Direct.j3
    repeat' first
    | (with_reducible exact ih0 _ _ _ _ _ _ _ _ _ _ _)
    | (with_reducible exact ih1 _ _ _ _ _ _ _ _ _ _ _ _ _ _ _ _ _ _ _ _ _ _ _)
    | (with_reducible exact ih2 _ _ _ _ _ _ _ _ _ _ _ _ _ _ _ _ _ _ _ _ _ _ _)
    | (with_reducible exact ih3 _ _ _ _ _ _ _ _ _ _ _ _ _ _ _ _ _ _ _ _ _ _ _ _ _)
    | (with_reducible exact interlockref07_sends.mono _ _ _ _)
    | (with_reducible exact interlockref07_takings.mono _ _ _ _)
    | (with_reducible exact interlockref07_writes.mono _ _ _ _)
    | (with_reducible exact LeO.refl _)
    | (with_reducible exact LeO.none _)
    | (with_reducible refine LeO.ite ?_ ?_)
    | (with_reducible refine LeO.bind ?_ (fun _ => ?_))
    | exact ih0 _ _ _ _ _ _ _ _ _ _ _
    | exact ih1 _ _ _ _ _ _ _ _ _ _ _ _ _ _ _ _ _ _ _ _ _ _ _
    | exact ih2 _ _ _ _ _ _ _ _ _ _ _ _ _ _ _ _ _ _ _ _ _ _ _
    | exact ih3 _ _ _ _ _ _ _ _ _ _ _ _ _ _ _ _ _ _ _ _ _ _ _ _ _
    | exact interlockref07_sends.mono _ _ _ _
    | exact interlockref07_takings.mono _ _ _ _
    | exact interlockref07_writes.mono _ _ _ _
    | exact LeO.none _
    | refine LeO.ite ?_ ?_
    | refine LeO.bind ?_ (fun _ => ?_)
theorem interlockref07_Direct.mono : ∀ a0 a1 a2 a3 a4 a5 a6 a7 a8 a9 k, LeO (interlockref07_Direct.f k a0 a1 a2 a3 a4 a5 a6 a7 a8 a9) (interlockref07_Direct.f (k + 1) a0 a1 a2 a3 a4 a5 a6 a7 a8 a9) := by
 intro a0 a1 a2 a3 a4 a5 a6 a7 a8 a9 k
 obtain ⟨ih0, ih1, ih2, ih3⟩ := interlockref07_Direct.mono_l k
 unfold interlockref07_Direct.f
 repeat' first
 | (with_reducible exact ih0 _ _ _ _ _ _ _ _ _ _ _)
 | (with_reducible exact ih1 _ _ _ _ _ _ _ _ _ _ _ _ _ _ _ _ _ _ _ _ _ _ _)
 | (with_reducible exact ih2 _ _ _ _ _ _ _ _ _ _ _ _ _ _ _ _ _ _ _ _ _ _ _)
 | (with_reducible exact ih3 _ _ _ _ _ _ _ _ _ _ _ _ _ _ _ _ _ _ _ _ _ _ _ _ _)
 | (with_reducible exact interlockref07_sends.mono _ _ _ _)
 | (with_reducible exact interlockref07_takings.mono _ _ _ _)
 | (with_reducible exact interlockref07_writes.mono _ _ _ _)
 | (with_reducible exact LeO.refl _)
 | (with_reducible exact LeO.none _)
 | (with_reducible refine LeO.ite ?_ ?_)
 | (with_reducible refine LeO.bind ?_ (fun _ => ?_))
 | exact ih0 _ _ _ _ _ _ _ _ _ _ _
 | exact ih1 _ _ _ _ _ _ _ _ _ _ _ _ _ _ _ _ _ _ _ _ _ _ _
 | exact ih2 _ _ _ _ _ _ _ _ _ _ _ _ _ _ _ _ _ _ _ _ _ _ _
 | exact ih3 _ _ _ _ _ _ _ _ _ _ _ _ _ _ _ _ _ _ _ _ _ _ _ _ _
 | exact interlockref07_sends.mono _ _ _ _
 | exact interlockref07_takings.mono _ _ _ _
 | exact interlockref07_writes.mono _ _ _ _
 | exact LeO.none _
 | refine LeO.ite ?_ ?_
 | refine LeO.bind ?_ (fun _ => ?_)
def interlockref07_Direct.T19 : Bool × List (List Nat × List Nat) := (true, [([], []), ([0], [0]), ([1, 1], [1]), ([2], [2]), ([2], [2]), ([4, 2], [2, 4]), ([2], [2]), ([3, 5, 6, 2, 2], [2, 3, 5, 6]), ([2], [2]), ([2], [2]), ([9, 2], [2, 9]), ([2], [2]), ([8, 10, 11, 7, 2], [2, 8, 10, 11]), ([7, 12, 2], [2, 7, 12]), ([2, 13], [2, 13]), ([14, 12, 0, 1, 2, 3, 4, 5, 6, 7, 8, 9, 10, 11, 12, 13, 14], [14])])
def interlockref07_Direct.B19 : List Nat := [0, 1, 3, 7, 7, 23, 7, 127, 7, 7, 519, 7, 4095, 8191, 16383, 32767]
theorem interlockref07_Direct.tab19 : rtab .any (opsOf Try.f19 19) = interlockref07_Direct.T19 := by kernel_rfl
theorem interlockref07_Direct.bits19 : waitsOk interlockref07_Direct.T19.2 interlockref07_Direct.B19 = true := by kernel_rfl
def interlockref07_Direct.T26 : Bool × List (List Nat × List Nat) := (true, [([], []), ([0], [0]), ([1, 1], [1]), ([2], [2]), ([3, 2], [2, 3]), ([4, 2], [2, 4]), ([2, 5], [2, 5]), ([6, 2], [6]), ([7], [7]), ([7], [7]), ([9, 7], [7, 9]), ([7], [7]), ([8, 10, 11, 7, 7], [7, 8, 10, 11]), ([7], [7]), ([7], [7]), ([14, 7], [7, 14]), ([13, 15, 12, 7], [7, 13, 15]), ([12, 16, 7], [7, 12, 16]), ([7], [7]), ([7], [7]), ([19, 7], [7, 19]), ([7], [7]), ([18, 20, 21, 16, 7], [7, 18, 20, 21]), ([17, 22, 7], [7, 17, 22]), ([7, 23], [7, 23]), ([24, 22, 0, 1, 2, 3, 4, 5, 6, 7, 8, 9, 10, 11, 12, 13, 14, 15, 16, 17, 18, 19, 20, 21, 22, 23, 24], [24])])
def interlockref07_Direct.B26 : List Nat := [0, 1, 3, 7, 15, 31, 63, 127, 255, 255, 767, 255, 4095, 255, 255, 16639, 65535, 131071, 255, 255, 524543, 255, 4063231, 8388607, 16777215, 33554431]
theorem interlockref07_Direct.tab26 : rtab .any (opsOf Try.f19 26) = interlockref07_Direct.T26 := by kernel_rfl
theorem interlockref07_Direct.bits26 : waitsOk interlockref07_Direct.T26.2 interlockref07_Direct.B26 = true := by kernel_rfl
set_option maxHeartbeats 8000000 in
set_option maxRecDepth 100000 in
theorem interlockref07_Direct.calls (k : Nat) (a0_0 : Int) (a0_1 : Int) (a0_2 : Int) (A0_3 : Option Addr) (c0_3 : Nat) (l0_3 : List Int) (a0_4 : Int) (a0_5 : Int) (A0_6 : Option Addr) (c0_6 : Nat) (l0_6 : List (List (S34))) (A1 : Option Addr) (c1 : Nat) (l1 : List (S24)) (a2 : Int) (a3 : Int) (r : Bool) (w : World) (hr0_3 : Kd.C (Kd.int .i64) w A0_3 l0_3.length l0_3) (hc0_3 : l0_3.length ≤ c0_3) (hr0_6 : Kd.C (Kd.slice 34 k34) w A0_6 l0_6.length l0_6) (hc0_6 : l0_6.length ≤ c0_6) (hr1 : Kd.C k24 w A1 l1.length l1) (hc1 : l1.length ≤ c1) (h : interlockref07_Direct.f k a0_0 a0_1 a0_2 l0_3 a0_4 a0_5 l0_6 l1 a2 a3 = some r) :
 Calls Try.prog 19 #[.agg #[.int .i64 a0_0, .int .i64 a0_1, .int .i64 a0_2, .slice A0_3 l0_3.length c0_3, .int .i64 a0_4, .int .i64 a0_5, .slice A0_6 l0_6.length c0_6], .slice A1 l1.length c1, .int .i64 a2, .int .i64 a3] w fun e w' => e = .returned (.bool r) ∧ Below w.heap.size w w' := by
 have hu30 := Try.underlying30
 have hu24 := Try.underlying24
 have HR0_3 := Aside0.mk hr0_3
 have HC0_3 := Aside0.mk hc0_3
 clear hr0_3 hc0_3
 have HR0_6 := Aside0.mk hr0_6
 have HC0_6 := Aside0.mk hc0_6
 clear hr0_6 hc0_6
 have HR1 := Aside0.mk hr1
 have HC1 := Aside0.mk hc1
 clear hr1 hc1
 have HB := Aside0.mk (Below.refl w.heap.size w)
 have H : (if a2 < 0 then (interlockref07_Direct.j0 k l1 a2 a3 true a0_0 a0_1 a0_2 l0_3 a0_4 a0_5 l0_6) else (if a2 ≥ a3 then (interlockref07_Direct.j0 k l1 a2 a3 true a0_0 a0_1 a0_2 l0_3 a0_4 a0_5 l0_6) else (interlockref07_Direct.j0 k l1 a2 a3 (decide (a3 ≥ (l1.length : Int))) a0_0 a0_1 a0_2 l0_3 a0_4 a0_5 l0_6))) = some r := h
 clear h
 have HC5 := Aside0.mk H
 clear H
 go_enter Try.func19, Try.ntmps19
 go_upto_region 1 with (first | ((with_reducible refine gate_dst (N := 4) rfl ?_); (try (refine gate_guard (by rfl) ?_; dsimp only)); refine box_event ?hg (N := 4) ?hd (cs := #[.int .i64 a0_0, .int .i64 a0_1, .int .i64 a0_2, .slice A0_3 l0_3.length c0_3, .int .i64 a0_4, .int .i64 a0_5, .slice A0_6 l0_6.length c0_6]) (t := 30) ?hr ?_; (case hd => rfl); (case hg => rfl); (case hr => first | (go_simp; done) | (go_simp; rfl)); intro gb143 hg w6 hbox hb; have n0_ := Aside0.mk (below_step (by repeat (first | (with_reducible first | exact HB.out | apply below_alloc | apply pw_below_drewN | apply below_drew1) | exact HB.out)) hb); have n1_ := Aside0.mk (hbox); have n2_ := Aside0.mk ((by rw [hg]; exact (below_size (by repeat (first | (with_reducible first | exact HB.out | apply below_alloc | apply pw_below_drewN | apply below_drew1) | exact HB.out))) : w.heap.size ≤ gb143)); have n3_ := Aside0.mk ((by rw [hg]; exact (below_size (by repeat (first | (with_reducible first | exact HB.out | apply below_alloc | apply pw_below_drewN | apply below_drew1) | exact HB.out))) : w.heap.size ≤ gb143)); clear HB; have HB := n0_; have BK143 := n1_; have GW143 := n2_; have GE143 := n3_; clear n0_ n1_ n2_ n3_; clear hb hbox hg))
 (try simp only [Act.put, List.setIfInBounds_toArray, List.set_cons_zero, List.set_cons_succ])
 go_cut [24] (fun v24 wc => ∃ (kq : Nat) (x24_4 : Bool), v24 = .bool x24_4 ∧ Aside0 (interlockref07_Direct.j0 kq l1 a2 a3 x24_4 a0_0 a0_1 a0_2 l0_3 a0_4 a0_5 l0_6 = some r) ∧ Aside0 (kq ≤ k) ∧ Aside0 (wc.heap[gb143]? = some (.cells #[.int .i64 a0_0, .int .i64 a0_1, .int .i64 a0_2, (.slice A0_3 l0_3.length c0_3), .int .i64 a0_4, .int .i64 a0_5, (.slice A0_6 l0_6.length c0_6)] 30 (0, 0))) ∧ Aside0 (Below w.heap.size w wc))
 case first =>
  have H := HC5.out
  clear HC5
  by_cases c7 : a2 < 0
  · rw [if_pos c7] at H
    have c7b0 : decide (a2 < 0) = true := decide_eq_true c7
    clear c7
    (first | rw [c7b0] | (simp only [i64_w, i32_w]; rw [c7b0]) | skip)
    have H' := Aside0.mk H
    clear H
    go_wp2
    go_meet
    case rel => exact ⟨_, (true), (by first | rfl | (simp; done) | (simp [*]; done)), H', ⟨by first | omega | exact Nat.le_refl _⟩, ⟨by (with_reducible repeat (first | refine blk_drewN ?_ _ | refine blk_drew ?_ | refine blk_alloc ?_ _)); exact BK143.out⟩, ⟨by repeat (first | (with_reducible first | exact HB.out | apply below_alloc | apply pw_below_drewN | apply below_drew1 | refine below_set ?_ GE143.out) | exact HB.out)⟩⟩
  · rw [if_neg c7] at H
    have c7b0 : decide (a2 < 0) = false := decide_eq_false c7
    clear c7
    (first | rw [c7b0] | (simp only [i64_w, i32_w]; rw [c7b0]) | skip)
    by_cases c8 : a2 ≥ a3
    · rw [if_pos c8] at H
      have c8b0 : decide (a3 ≤ a2) = true := decide_eq_true c8
      clear c8
      have H' := Aside0.mk H
      clear H
      go_wp2
      go_meet
      case rel => exact ⟨_, (true), (by first | rfl | (simp; done) | (simp [*]; done)), H', ⟨by first | omega | exact Nat.le_refl _⟩, ⟨by (with_reducible repeat (first | refine blk_drewN ?_ _ | refine blk_drew ?_ | refine blk_alloc ?_ _)); exact BK143.out⟩, ⟨by repeat (first | (with_reducible first | exact HB.out | apply below_alloc | apply pw_below_drewN | apply below_drew1 | refine below_set ?_ GE143.out) | exact HB.out)⟩⟩
    · rw [if_neg c8] at H
      have c8b0 : decide (a3 ≤ a2) = false := decide_eq_false c8
      clear c8
      have H' := Aside0.mk H
      clear H
      go_wp2
      go_meet
      case rel => exact ⟨_, (decide (a3 ≥ (l1.length : Int))), (by first | rfl | (simp; done) | (simp [*]; done)), H', ⟨by first | omega | exact Nat.le_refl _⟩, ⟨by (with_reducible repeat (first | refine blk_drewN ?_ _ | refine blk_drew ?_ | refine blk_alloc ?_ _)); exact BK143.out⟩, ⟨by repeat (first | (with_reducible first | exact HB.out | apply below_alloc | apply pw_below_drewN | apply below_drew1 | refine below_set ?_ GE143.out) | exact HB.out)⟩⟩
 case rest =>
  clear HC5
  try clear c1
  try clear p2
  try clear c7
  try clear c7b0
  try clear c8
  try clear c8b0
  obtain ⟨kq, x24_4, rfl, HA, HJ4, BK143, HB⟩ := hcut
  cases kq with
  | zero => exact absurd HA.out (by simp [interlockref07_Direct.j0])
  | succ kj4 =>
   have H := HA.out
   clear HA
   simp only [interlockref07_Direct.j0] at H
   by_cases c9 : x24_4 = true
   · subst c9
     have H1 : (some false) = some r := by rw [if_pos rfl] at H; exact H
     clear H
     have H := H1
     clear H1
     obtain rfl := Option.some.inj H
     go_wp2
     go_ret
     exact ⟨by first | rfl | (simp [errW_none, errW_some] <;> rfl) | (simp [*, errW_none, errW_some] <;> rfl), by repeat (first | (with_reducible first | exact HB.out | apply below_alloc | apply pw_below_drewN | apply below_drew1 | refine below_set ?_ GE143.out) | exact HB.out)⟩
   · replace c9 := Bool.eq_false_iff.mpr c9
     subst c9
     have H1 : (if 0 ≤ a2 then (if a2 < (l1.length : Int) then (if 0 ≤ a3 then (if a3 < (l1.length : Int) then (if ((rd_T24 l1 a2).f0) = ((rd_T24 l1 a3).f0) then (interlockref07_Direct.j1 kj4 l1 a2 a3 true a0_0 a0_1 a0_2 l0_3 a0_4 a0_5 l0_6 ((rd_T24 l1 a2).f0) ((rd_T24 l1 a2).f1) ((rd_T24 l1 a2).f2) ((rd_T24 l1 a2).f3) ((rd_T24 l1 a2).f4) ((rd_T24 l1 a2).f5) ((rd_T24 l1 a3).f0) ((rd_T24 l1 a3).f1) ((rd_T24 l1 a3).f2) ((rd_T24 l1 a3).f3) ((rd_T24 l1 a3).f4) ((rd_T24 l1 a3).f5)) else (if ((rd_T24 l1 a2).f2) = 12 then (interlockref07_Direct.j1 kj4 l1 a2 a3 (((rd_T24 l1 a2).f3) == ((rd_T24 l1 a3).f0)) a0_0 a0_1 a0_2 l0_3 a0_4 a0_5 l0_6 ((rd_T24 l1 a2).f0) ((rd_T24 l1 a2).f1) ((rd_T24 l1 a2).f2) ((rd_T24 l1 a2).f3) ((rd_T24 l1 a2).f4) ((rd_T24 l1 a2).f5) ((rd_T24 l1 a3).f0) ((rd_T24 l1 a3).f1) ((rd_T24 l1 a3).f2) ((rd_T24 l1 a3).f3) ((rd_T24 l1 a3).f4) ((rd_T24 l1 a3).f5)) else (interlockref07_Direct.j1 kj4 l1 a2 a3 false a0_0 a0_1 a0_2 l0_3 a0_4 a0_5 l0_6 ((rd_T24 l1 a2).f0) ((rd_T24 l1 a2).f1) ((rd_T24 l1 a2).f2) ((rd_T24 l1 a2).f3) ((rd_T24 l1 a2).f4) ((rd_T24 l1 a2).f5) ((rd_T24 l1 a3).f0) ((rd_T24 l1 a3).f1) ((rd_T24 l1 a3).f2) ((rd_T24 l1 a3).f3) ((rd_T24 l1 a3).f4) ((rd_T24 l1 a3).f5)))) else (none)) else (none)) else (none)) else (none)) = some r := by rw [if_neg (show ¬ (false = true) by decide)] at H; exact H
     clear H
     have H := H1
     clear H1
     by_cases c10 : 0 ≤ a2
     · rw [if_pos c10] at H
       have c10b0 : decide (0 ≤ a2) = true := decide_eq_true c10
       clear c10
       by_cases c11 : a2 < (l1.length : Int)
       · rw [if_pos c11] at H
         have c11b0 : decide (a2 < (l1.length : Int)) = true := decide_eq_true c11
         clear c11
         by_cases c12 : 0 ≤ a3
         · rw [if_pos c12] at H
           have c12b0 : decide (0 ≤ a3) = true := decide_eq_true c12
           clear c12
           by_cases c13 : a3 < (l1.length : Int)
           · rw [if_pos c13] at H
             have c13b0 : decide (a3 < (l1.length : Int)) = true := decide_eq_true c13
             clear c13
             have HC14 := Aside0.mk H
             clear H
             have p144 : 0 ≤ (a2 : Int) := of_decide_eq_true (by first | (with_reducible assumption) | assumption)
             have q144 : a2 < (l1.length : Int) := of_decide_eq_true (by first | (with_reducible assumption) | assumption)
             obtain ⟨ad144, e144, hx144_0, hx144_1, hx144_2, hx144_3, hx144_4, hx144_5⟩ := at_T24 HR1.out a2 p144 q144
             cases e144
             replace hx144_0 := (HB.out.cell (World.block_lt_of_cell? w _ hx144_0)).trans hx144_0
             replace hx144_1 := (HB.out.cell (World.block_lt_of_cell? w _ hx144_1)).trans hx144_1
             replace hx144_2 := (HB.out.cell (World.block_lt_of_cell? w _ hx144_2)).trans hx144_2
             replace hx144_3 := (HB.out.cell (World.block_lt_of_cell? w _ hx144_3)).trans hx144_3
             replace hx144_4 := (HB.out.cell (World.block_lt_of_cell? w _ hx144_4)).trans hx144_4
             replace hx144_5 := (HB.out.cell (World.block_lt_of_cell? w _ hx144_5)).trans hx144_5
             replace p144 := eq_true p144
             replace q144 := eq_true q144
             go_upto_region 5 with (first | ((with_reducible refine gate_dst (N := 9) rfl ?_); (try (refine gate_guard (by rfl) ?_; dsimp only)); refine box_event ?hg (N := 9) ?hd (cs := #[.int .i64 0, .int .i64 0, .int .u8 0, .int .i64 0, .int .i64 0, .int .i64 0]) (t := 24) ?hr ?_; (case hd => rfl); (case hg => rfl); (case hr => first | (go_simp; done) | (go_simp; rfl)); intro gb145 hg w15 hbox hb; have n0_ := Aside0.mk (blk_below (g := gb143) (o := .cells #[.int .i64 a0_0, .int .i64 a0_1, .int .i64 a0_2, .slice A0_3 l0_3.length c0_3, .int .i64 a0_4, .int .i64 a0_5, .slice A0_6 l0_6.length c0_6] 30 (0, 0)) (by (with_reducible repeat (first | refine blk_drewN ?_ _ | refine blk_drew ?_ | refine blk_alloc ?_ _)); exact BK143.out) hb); have n1_ := Aside0.mk (below_step (by repeat (first | (with_reducible first | exact HB.out | apply below_alloc | apply pw_below_drewN | apply below_drew1 | refine below_set ?_ GE143.out) | exact HB.out)) hb); have n2_ := Aside0.mk (hbox); have n3_ := Aside0.mk ((by rw [hg]; exact (below_size (by repeat (first | (with_reducible first | exact HB.out | apply below_alloc | apply pw_below_drewN | apply below_drew1 | refine below_set ?_ GE143.out) | exact HB.out))) : w.heap.size ≤ gb145)); have n4_ := Aside0.mk ((by rw [hg]; exact (below_size (by repeat (first | (with_reducible first | exact HB.out | apply below_alloc | apply pw_below_drewN | apply below_drew1 | refine below_set ?_ GE143.out) | exact HB.out))) : w.heap.size ≤ gb145)); have n5_ := Aside0.mk ((by rw [hg]; exact Nat.ne_of_lt (blk_lt (g := gb143) (o := .cells #[.int .i64 a0_0, .int .i64 a0_1, .int .i64 a0_2, .slice A0_3 l0_3.length c0_3, .int .i64 a0_4, .int .i64 a0_5, .slice A0_6 l0_6.length c0_6] 30 (0, 0)) (by (with_reducible repeat (first | refine blk_drewN ?_ _ | refine blk_drew ?_ | refine blk_alloc ?_ _)); exact BK143.out)) : gb143 ≠ gb145)); have n6_ := Aside0.mk ((by rw [hg]; exact Nat.ne_of_gt (blk_lt (g := gb143) (o := .cells #[.int .i64 a0_0, .int .i64 a0_1, .int .i64 a0_2, .slice A0_3 l0_3.length c0_3, .int .i64 a0_4, .int .i64 a0_5, .slice A0_6 l0_6.length c0_6] 30 (0, 0)) (by (with_reducible repeat (first | refine blk_drewN ?_ _ | refine blk_drew ?_ | refine blk_alloc ?_ _)); exact BK143.out)) : gb145 ≠ gb143)); clear BK143; clear HB; have BK143 := n0_; have HB := n1_; have BK145 := n2_; have GW145 := n3_; have GE145 := n4_; have NB143_145 := n5_; have NB145_143 := n6_; clear n0_ n1_ n2_ n3_ n4_ n5_ n6_; clear hb hbox hg; have hnb16 := NB145_143.out; have hnc16 := NB143_145.out; have hcz17_0 : w15.cell? ⟨gb145, 0, none⟩ = some (.int .i64 0) := (blk_cell BK145.out 0).trans rfl; have hcz17_1 : w15.cell? ⟨gb145, 1, none⟩ = some (.int .i64 0) := (blk_cell BK145.out 1).trans rfl; have hcz17_2 : w15.cell? ⟨gb145, 2, none⟩ = some (.int .u8 0) := (blk_cell BK145.out 2).trans rfl; have hcz17_3 : w15.cell? ⟨gb145, 3, none⟩ = some (.int .i64 0) := (blk_cell BK145.out 3).trans rfl; have hcz17_4 : w15.cell? ⟨gb145, 4, none⟩ = some (.int .i64 0) := (blk_cell BK145.out 4).trans rfl; have hcz17_5 : w15.cell? ⟨gb145, 5, none⟩ = some (.int .i64 0) := (blk_cell BK145.out 5).trans rfl; have hfz17_0 := blk_frozen BK145.out 0; have hfz17_1 := blk_frozen BK145.out 1; have hfz17_2 := blk_frozen BK145.out 2; have hfz17_3 := blk_frozen BK145.out 3; have hfz17_4 := blk_frozen BK145.out 4; have hfz17_5 := blk_frozen BK145.out 5; have p146 : 0 ≤ (a3 : Int) := of_decide_eq_true (by first | (with_reducible assumption) | assumption); have q146 : a3 < (l1.length : Int) := of_decide_eq_true (by first | (with_reducible assumption) | assumption); obtain ⟨ad146, e146, hx146_0, hx146_1, hx146_2, hx146_3, hx146_4, hx146_5⟩ := at_T24 HR1.out a3 p146 q146; obtain rfl : ad144 = ad146 := (by injection e146); have hn146_0 : ad144.block ≠ gb145 := Nat.ne_of_lt (Nat.lt_of_lt_of_le (by have := World.block_lt_of_cell? _ _ hx146_0; first | rwa [add_block] at this | exact this) GW145.out); have hn146_1 : ad144.block ≠ gb145 := Nat.ne_of_lt (Nat.lt_of_lt_of_le (by have := World.block_lt_of_cell? _ _ hx146_0; first | rwa [add_block] at this | exact this) GW145.out); have hn146_2 : ad144.block ≠ gb145 := Nat.ne_of_lt (Nat.lt_of_lt_of_le (by have := World.block_lt_of_cell? _ _ hx146_0; first | rwa [add_block] at this | exact this) GW145.out); have hn146_3 : ad144.block ≠ gb145 := Nat.ne_of_lt (Nat.lt_of_lt_of_le (by have := World.block_lt_of_cell? _ _ hx146_0; first | rwa [add_block] at this | exact this) GW145.out); have hn146_4 : ad144.block ≠ gb145 := Nat.ne_of_lt (Nat.lt_of_lt_of_le (by have := World.block_lt_of_cell? _ _ hx146_0; first | rwa [add_block] at this | exact this) GW145.out); have hn146_5 : ad144.block ≠ gb145 := Nat.ne_of_lt (Nat.lt_of_lt_of_le (by have := World.block_lt_of_cell? _ _ hx146_0; first | rwa [add_block] at this | exact this) GW145.out); replace hx146_0 := (HB.out.cell (World.block_lt_of_cell? w _ hx146_0)).trans hx146_0; replace hx146_1 := (HB.out.cell (World.block_lt_of_cell? w _ hx146_1)).trans hx146_1; replace hx146_2 := (HB.out.cell (World.block_lt_of_cell? w _ hx146_2)).trans hx146_2; replace hx146_3 := (HB.out.cell (World.block_lt_of_cell? w _ hx146_3)).trans hx146_3; replace hx146_4 := (HB.out.cell (World.block_lt_of_cell? w _ hx146_4)).trans hx146_4; replace hx146_5 := (HB.out.cell (World.block_lt_of_cell? w _ hx146_5)).trans hx146_5; replace hx146_0 := (cell_far (p := ⟨gb145, 0, none⟩) (by first | (rw [add_block]; exact hn146_0) | (show (Addr.add _ _).block ≠ _; rw [add_block]; exact hn146_0) | exact hn146_0) (.int .i64 ((rd_T24 l1 a2).f0))).trans hx146_0; replace hx146_1 := (cell_far (p := ⟨gb145, 0, none⟩) (by first | (rw [add_block]; exact hn146_0) | (show (Addr.add _ _).block ≠ _; rw [add_block]; exact hn146_0) | exact hn146_0) (.int .i64 ((rd_T24 l1 a2).f0))).trans hx146_1; replace hx146_2 := (cell_far (p := ⟨gb145, 0, none⟩) (by first | (rw [add_block]; exact hn146_0) | (show (Addr.add _ _).block ≠ _; rw [add_block]; exact hn146_0) | exact hn146_0) (.int .i64 ((rd_T24 l1 a2).f0))).trans hx146_2; replace hx146_3 := (cell_far (p := ⟨gb145, 0, none⟩) (by first | (rw [add_block]; exact hn146_0) | (show (Addr.add _ _).block ≠ _; rw [add_block]; exact hn146_0) | exact hn146_0) (.int .i64 ((rd_T24 l1 a2).f0))).trans hx146_3; replace hx146_4 := (cell_far (p := ⟨gb145, 0, none⟩) (by first | (rw [add_block]; exact hn146_0) | (show (Addr.add _ _).block ≠ _; rw [add_block]; exact hn146_0) | exact hn146_0) (.int .i64 ((rd_T24 l1 a2).f0))).trans hx146_4; replace hx146_5 := (cell_far (p := ⟨gb145, 0, none⟩) (by first | (rw [add_block]; exact hn146_0) | (show (Addr.add _ _).block ≠ _; rw [add_block]; exact hn146_0) | exact hn146_0) (.int .i64 ((rd_T24 l1 a2).f0))).trans hx146_5; replace hx146_0 := (cell_far (p := ⟨gb145, 1, none⟩) (by first | (rw [add_block]; exact hn146_1) | (show (Addr.add _ _).block ≠ _; rw [add_block]; exact hn146_1) | exact hn146_1) (.int .i64 ((rd_T24 l1 a2).f1))).trans hx146_0; replace hx146_1 := (cell_far (p := ⟨gb145, 1, none⟩) (by first | (rw [add_block]; exact hn146_1) | (show (Addr.add _ _).block ≠ _; rw [add_block]; exact hn146_1) | exact hn146_1) (.int .i64 ((rd_T24 l1 a2).f1))).trans hx146_1; replace hx146_2 := (cell_far (p := ⟨gb145, 1, none⟩) (by first | (rw [add_block]; exact hn146_1) | (show (Addr.add _ _).block ≠ _; rw [add_block]; exact hn146_1) | exact hn146_1) (.int .i64 ((rd_T24 l1 a2).f1))).trans hx146_2; replace hx146_3 := (cell_far (p := ⟨gb145, 1, none⟩) (by first | (rw [add_block]; exact hn146_1) | (show (Addr.add _ _).block ≠ _; rw [add_block]; exact hn146_1) | exact hn146_1) (.int .i64 ((rd_T24 l1 a2).f1))).trans hx146_3; replace hx146_4 := (cell_far (p := ⟨gb145, 1, none⟩) (by first | (rw [add_block]; exact hn146_1) | (show (Addr.add _ _).block ≠ _; rw [add_block]; exact hn146_1) | exact hn146_1) (.int .i64 ((rd_T24 l1 a2).f1))).trans hx146_4; replace hx146_5 := (cell_far (p := ⟨gb145, 1, none⟩) (by first | (rw [add_block]; exact hn146_1) | (show (Addr.add _ _).block ≠ _; rw [add_block]; exact hn146_1) | exact hn146_1) (.int .i64 ((rd_T24 l1 a2).f1))).trans hx146_5; replace hx146_0 := (cell_far (p := ⟨gb145, 2, none⟩) (by first | (rw [add_block]; exact hn146_2) | (show (Addr.add _ _).block ≠ _; rw [add_block]; exact hn146_2) | exact hn146_2) (.int .u8 ((rd_T24 l1 a2).f2))).trans hx146_0; replace hx146_1 := (cell_far (p := ⟨gb145, 2, none⟩) (by first | (rw [add_block]; exact hn146_2) | (show (Addr.add _ _).block ≠ _; rw [add_block]; exact hn146_2) | exact hn146_2) (.int .u8 ((rd_T24 l1 a2).f2))).trans hx146_1; replace hx146_2 := (cell_far (p := ⟨gb145, 2, none⟩) (by first | (rw [add_block]; exact hn146_2) | (show (Addr.add _ _).block ≠ _; rw [add_block]; exact hn146_2) | exact hn146_2) (.int .u8 ((rd_T24 l1 a2).f2))).trans hx146_2; replace hx146_3 := (cell_far (p := ⟨gb145, 2, none⟩) (by first | (rw [add_block]; exact hn146_2) | (show (Addr.add _ _).block ≠ _; rw [add_block]; exact hn146_2) | exact hn146_2) (.int .u8 ((rd_T24 l1 a2).f2))).trans hx146_3; replace hx146_4 := (cell_far (p := ⟨gb145, 2, none⟩) (by first | (rw [add_block]; exact hn146_2) | (show (Addr.add _ _).block ≠ _; rw [add_block]; exact hn146_2) | exact hn146_2) (.int .u8 ((rd_T24 l1 a2).f2))).trans hx146_4; replace hx146_5 := (cell_far (p := ⟨gb145, 2, none⟩) (by first | (rw [add_block]; exact hn146_2) | (show (Addr.add _ _).block ≠ _; rw [add_block]; exact hn146_2) | exact hn146_2) (.int .u8 ((rd_T24 l1 a2).f2))).trans hx146_5; replace hx146_0 := (cell_far (p := ⟨gb145, 3, none⟩) (by first | (rw [add_block]; exact hn146_3) | (show (Addr.add _ _).block ≠ _; rw [add_block]; exact hn146_3) | exact hn146_3) (.int .i64 ((rd_T24 l1 a2).f3))).trans hx146_0; replace hx146_1 := (cell_far (p := ⟨gb145, 3, none⟩) (by first | (rw [add_block]; exact hn146_3) | (show (Addr.add _ _).block ≠ _; rw [add_block]; exact hn146_3) | exact hn146_3) (.int .i64 ((rd_T24 l1 a2).f3))).trans hx146_1; replace hx146_2 := (cell_far (p := ⟨gb145, 3, none⟩) (by first | (rw [add_block]; exact hn146_3) | (show (Addr.add _ _).block ≠ _; rw [add_block]; exact hn146_3) | exact hn146_3) (.int .i64 ((rd_T24 l1 a2).f3))).trans hx146_2; replace hx146_3 := (cell_far (p := ⟨gb145, 3, none⟩) (by first | (rw [add_block]; exact hn146_3) | (show (Addr.add _ _).block ≠ _; rw [add_block]; exact hn146_3) | exact hn146_3) (.int .i64 ((rd_T24 l1 a2).f3))).trans hx146_3; replace hx146_4 := (cell_far (p := ⟨gb145, 3, none⟩) (by first | (rw [add_block]; exact hn146_3) | (show (Addr.add _ _).block ≠ _; rw [add_block]; exact hn146_3) | exact hn146_3) (.int .i64 ((rd_T24 l1 a2).f3))).trans hx146_4; replace hx146_5 := (cell_far (p := ⟨gb145, 3, none⟩) (by first | (rw [add_block]; exact hn146_3) | (show (Addr.add _ _).block ≠ _; rw [add_block]; exact hn146_3) | exact hn146_3) (.int .i64 ((rd_T24 l1 a2).f3))).trans hx146_5; replace hx146_0 := (cell_far (p := ⟨gb145, 4, none⟩) (by first | (rw [add_block]; exact hn146_4) | (show (Addr.add _ _).block ≠ _; rw [add_block]; exact hn146_4) | exact hn146_4) (.int .i64 ((rd_T24 l1 a2).f4))).trans hx146_0; replace hx146_1 := (cell_far (p := ⟨gb145, 4, none⟩) (by first | (rw [add_block]; exact hn146_4) | (show (Addr.add _ _).block ≠ _; rw [add_block]; exact hn146_4) | exact hn146_4) (.int .i64 ((rd_T24 l1 a2).f4))).trans hx146_1; replace hx146_2 := (cell_far (p := ⟨gb145, 4, none⟩) (by first | (rw [add_block]; exact hn146_4) | (show (Addr.add _ _).block ≠ _; rw [add_block]; exact hn146_4) | exact hn146_4) (.int .i64 ((rd_T24 l1 a2).f4))).trans hx146_2; replace hx146_3 := (cell_far (p := ⟨gb145, 4, none⟩) (by first | (rw [add_block]; exact hn146_4) | (show (Addr.add _ _).block ≠ _; rw [add_block]; exact hn146_4) | exact hn146_4) (.int .i64 ((rd_T24 l1 a2).f4))).trans hx146_3; replace hx146_4 := (cell_far (p := ⟨gb145, 4, none⟩) (by first | (rw [add_block]; exact hn146_4) | (show (Addr.add _ _).block ≠ _; rw [add_block]; exact hn146_4) | exact hn146_4) (.int .i64 ((rd_T24 l1 a2).f4))).trans hx146_4; replace hx146_5 := (cell_far (p := ⟨gb145, 4, none⟩) (by first | (rw [add_block]; exact hn146_4) | (show (Addr.add _ _).block ≠ _; rw [add_block]; exact hn146_4) | exact hn146_4) (.int .i64 ((rd_T24 l1 a2).f4))).trans hx146_5; replace hx146_0 := (cell_far (p := ⟨gb145, 5, none⟩) (by first | (rw [add_block]; exact hn146_5) | (show (Addr.add _ _).block ≠ _; rw [add_block]; exact hn146_5) | exact hn146_5) (.int .i64 ((rd_T24 l1 a2).f5))).trans hx146_0; replace hx146_1 := (cell_far (p := ⟨gb145, 5, none⟩) (by first | (rw [add_block]; exact hn146_5) | (show (Addr.add _ _).block ≠ _; rw [add_block]; exact hn146_5) | exact hn146_5) (.int .i64 ((rd_T24 l1 a2).f5))).trans hx146_1; replace hx146_2 := (cell_far (p := ⟨gb145, 5, none⟩) (by first | (rw [add_block]; exact hn146_5) | (show (Addr.add _ _).block ≠ _; rw [add_block]; exact hn146_5) | exact hn146_5) (.int .i64 ((rd_T24 l1 a2).f5))).trans hx146_2; replace hx146_3 := (cell_far (p := ⟨gb145, 5, none⟩) (by first | (rw [add_block]; exact hn146_5) | (show (Addr.add _ _).block ≠ _; rw [add_block]; exact hn146_5) | exact hn146_5) (.int .i64 ((rd_T24 l1 a2).f5))).trans hx146_3; replace hx146_4 := (cell_far (p := ⟨gb145, 5, none⟩) (by first | (rw [add_block]; exact hn146_5) | (show (Addr.add _ _).block ≠ _; rw [add_block]; exact hn146_5) | exact hn146_5) (.int .i64 ((rd_T24 l1 a2).f5))).trans hx146_4; replace hx146_5 := (cell_far (p := ⟨gb145, 5, none⟩) (by first | (rw [add_block]; exact hn146_5) | (show (Addr.add _ _).block ≠ _; rw [add_block]; exact hn146_5) | exact hn146_5) (.int .i64 ((rd_T24 l1 a2).f5))).trans hx146_5; clear hn146_0; clear hn146_1; clear hn146_2; clear hn146_3; clear hn146_4; clear hn146_5; replace p146 := eq_true p146; replace q146 := eq_true q146) | ((with_reducible refine gate_dst (N := 10) rfl ?_); (try (refine gate_guard (by rfl) ?_; dsimp only)); refine box_event ?hg (N := 10) ?hd (cs := #[.int .i64 0, .int .i64 0, .int .u8 0, .int .i64 0, .int .i64 0, .int .i64 0]) (t := 24) ?hr ?_; (case hd => rfl); (case hg => rfl); (case hr => first | (go_simp; done) | (go_simp; rfl)); intro gb147 hg w18 hbox hb; have n0_ := Aside0.mk (blk_below (g := gb143) (o := .cells #[.int .i64 a0_0, .int .i64 a0_1, .int .i64 a0_2, .slice A0_3 l0_3.length c0_3, .int .i64 a0_4, .int .i64 a0_5, .slice A0_6 l0_6.length c0_6] 30 (0, 0)) (by (with_reducible repeat (first | refine blk_drewN ?_ _ | refine blk_drew ?_ | refine blk_alloc ?_ _)); refine blk_far ?_ NB143_145.out _; (with_reducible repeat (first | refine blk_drewN ?_ _ | refine blk_drew ?_ | refine blk_alloc ?_ _)); refine blk_far ?_ NB143_145.out _; (with_reducible repeat (first | refine blk_drewN ?_ _ | refine blk_drew ?_ | refine blk_alloc ?_ _)); refine blk_far ?_ NB143_145.out _; (with_reducible repeat (first | refine blk_drewN ?_ _ | refine blk_drew ?_ | refine blk_alloc ?_ _)); refine blk_far ?_ NB143_145.out _; (with_reducible repeat (first | refine blk_drewN ?_ _ | refine blk_drew ?_ | refine blk_alloc ?_ _)); refine blk_far ?_ NB143_145.out _; (with_reducible repeat (first | refine blk_drewN ?_ _ | refine blk_drew ?_ | refine blk_alloc ?_ _)); refine blk_far ?_ NB143_145.out _; (with_reducible repeat (first | refine blk_drewN ?_ _ | refine blk_drew ?_ | refine blk_alloc ?_ _)); exact BK143.out) hb); have n1_ := Aside0.mk (blk_below (g := gb145) (o := .cells #[.int .i64 ((rd_T24 l1 a2).f0), .int .i64 ((rd_T24 l1 a2).f1), .int .u8 ((rd_T24 l1 a2).f2), .int .i64 ((rd_T24 l1 a2).f3), .int .i64 ((rd_T24 l1 a2).f4), .int .i64 ((rd_T24 l1 a2).f5)] 24 (0, 0)) (by (with_reducible repeat (first | refine blk_drewN ?_ _ | refine blk_drew ?_ | refine blk_alloc ?_ _)); refine blk_put (cs := #[.int .i64 ((rd_T24 l1 a2).f0), .int .i64 ((rd_T24 l1 a2).f1), .int .u8 ((rd_T24 l1 a2).f2), .int .i64 ((rd_T24 l1 a2).f3), .int .i64 ((rd_T24 l1 a2).f4), .int .i64 0]) ?_ 5 _ rfl; (with_reducible repeat (first | refine blk_drewN ?_ _ | refine blk_drew ?_ | refine blk_alloc ?_ _)); refine blk_put (cs := #[.int .i64 ((rd_T24 l1 a2).f0), .int .i64 ((rd_T24 l1 a2).f1), .int .u8 ((rd_T24 l1 a2).f2), .int .i64 ((rd_T24 l1 a2).f3), .int .i64 0, .int .i64 0]) ?_ 4 _ rfl; (with_reducible repeat (first | refine blk_drewN ?_ _ | refine blk_drew ?_ | refine blk_alloc ?_ _)); refine blk_put (cs := #[.int .i64 ((rd_T24 l1 a2).f0), .int .i64 ((rd_T24 l1 a2).f1), .int .u8 ((rd_T24 l1 a2).f2), .int .i64 0, .int .i64 0, .int .i64 0]) ?_ 3 _ rfl; (with_reducible repeat (first | refine blk_drewN ?_ _ | refine blk_drew ?_ | refine blk_alloc ?_ _)); refine blk_put (cs := #[.int .i64 ((rd_T24 l1 a2).f0), .int .i64 ((rd_T24 l1 a2).f1), .int .u8 0, .int .i64 0, .int .i64 0, .int .i64 0]) ?_ 2 _ rfl; (with_reducible repeat (first | refine blk_drewN ?_ _ | refine blk_drew ?_ | refine blk_alloc ?_ _)); refine blk_put (cs := #[.int .i64 ((rd_T24 l1 a2).f0), .int .i64 0, .int .u8 0, .int .i64 0, .int .i64 0, .int .i64 0]) ?_ 1 _ rfl; (with_reducible repeat (first | refine blk_drewN ?_ _ | refine blk_drew ?_ | refine blk_alloc ?_ _)); refine blk_put (cs := #[.int .i64 0, .int .i64 0, .int .u8 0, .int .i64 0, .int .i64 0, .int .i64 0]) ?_ 0 _ rfl; (with_reducible repeat (first | refine blk_drewN ?_ _ | refine blk_drew ?_ | refine blk_alloc ?_ _)); exact BK145.out) hb); have n2_ := Aside0.mk (below_step (by repeat (first | (with_reducible first | exact HB.out | apply below_alloc | apply pw_below_drewN | apply below_drew1 | refine below_set ?_ GE143.out | refine below_set ?_ GE145.out) | exact HB.out)) hb); have n3_ := Aside0.mk (hbox); have n4_ := Aside0.mk ((by rw [hg]; exact (below_size (by repeat (first | (with_reducible first | exact HB.out | apply below_alloc | apply pw_below_drewN | apply below_drew1 | refine below_set ?_ GE143.out | refine below_set ?_ GE145.out) | exact HB.out))) : w.heap.size ≤ gb147)); have n5_ := Aside0.mk ((by rw [hg]; exact (below_size (by repeat (first | (with_reducible first | exact HB.out | apply below_alloc | apply pw_below_drewN | apply below_drew1 | refine below_set ?_ GE143.out | refine below_set ?_ GE145.out) | exact HB.out))) : w.heap.size ≤ gb147)); have n6_ := Aside0.mk ((by rw [hg]; exact Nat.ne_of_lt (blk_lt (g := gb143) (o := .cells #[.int .i64 a0_0, .int .i64 a0_1, .int .i64 a0_2, .slice A0_3 l0_3.length c0_3, .int .i64 a0_4, .int .i64 a0_5, .slice A0_6 l0_6.length c0_6] 30 (0, 0)) (by (with_reducible repeat (first | refine blk_drewN ?_ _ | refine blk_drew ?_ | refine blk_alloc ?_ _)); refine blk_far ?_ NB143_145.out _; (with_reducible repeat (first | refine blk_drewN ?_ _ | refine blk_drew ?_ | refine blk_alloc ?_ _)); refine blk_far ?_ NB143_145.out _; (with_reducible repeat (first | refine blk_drewN ?_ _ | refine blk_drew ?_ | refine blk_alloc ?_ _)); refine blk_far ?_ NB143_145.out _; (with_reducible repeat (first | refine blk_drewN ?_ _ | refine blk_drew ?_ | refine blk_alloc ?_ _)); refine blk_far ?_ NB143_145.out _; (with_reducible repeat (first | refine blk_drewN ?_ _ | refine blk_drew ?_ | refine blk_alloc ?_ _)); refine blk_far ?_ NB143_145.out _; (with_reducible repeat (first | refine blk_drewN ?_ _ | refine blk_drew ?_ | refine blk_alloc ?_ _)); refine blk_far ?_ NB143_145.out _; (with_reducible repeat (first | refine blk_drewN ?_ _ | refine blk_drew ?_ | refine blk_alloc ?_ _)); exact BK143.out)) : gb143 ≠ gb147)); have n7_ := Aside0.mk ((by rw [hg]; exact Nat.ne_of_gt (blk_lt (g := gb143) (o := .cells #[.int .i64 a0_0, .int .i64 a0_1, .int .i64 a0_2, .slice A0_3 l0_3.length c0_3, .int .i64 a0_4, .int .i64 a0_5, .slice A0_6 l0_6.length c0_6] 30 (0, 0)) (by (with_reducible repeat (first | refine blk_drewN ?_ _ | refine blk_drew ?_ | refine blk_alloc ?_ _)); refine blk_far ?_ NB143_145.out _; (with_reducible repeat (first | refine blk_drewN ?_ _ | refine blk_drew ?_ | refine blk_alloc ?_ _)); refine blk_far ?_ NB143_145.out _; (with_reducible repeat (first | refine blk_drewN ?_ _ | refine blk_drew ?_ | refine blk_alloc ?_ _)); refine blk_far ?_ NB143_145.out _; (with_reducible repeat (first | refine blk_drewN ?_ _ | refine blk_drew ?_ | refine blk_alloc ?_ _)); refine blk_far ?_ NB143_145.out _; (with_reducible repeat (first | refine blk_drewN ?_ _ | refine blk_drew ?_ | refine blk_alloc ?_ _)); refine blk_far ?_ NB143_145.out _; (with_reducible repeat (first | refine blk_drewN ?_ _ | refine blk_drew ?_ | refine blk_alloc ?_ _)); refine blk_far ?_ NB143_145.out _; (with_reducible repeat (first | refine blk_drewN ?_ _ | refine blk_drew ?_ | refine blk_alloc ?_ _)); exact BK143.out)) : gb147 ≠ gb143)); have n8_ := Aside0.mk ((by rw [hg]; exact Nat.ne_of_lt (blk_lt (g := gb145) (o := .cells #[.int .i64 ((rd_T24 l1 a2).f0), .int .i64 ((rd_T24 l1 a2).f1), .int .u8 ((rd_T24 l1 a2).f2), .int .i64 ((rd_T24 l1 a2).f3), .int .i64 ((rd_T24 l1 a2).f4), .int .i64 ((rd_T24 l1 a2).f5)] 24 (0, 0)) (by (with_reducible repeat (first | refine blk_drewN ?_ _ | refine blk_drew ?_ | refine blk_alloc ?_ _)); refine blk_put (cs := #[.int .i64 ((rd_T24 l1 a2).f0), .int .i64 ((rd_T24 l1 a2).f1), .int .u8 ((rd_T24 l1 a2).f2), .int .i64 ((rd_T24 l1 a2).f3), .int .i64 ((rd_T24 l1 a2).f4), .int .i64 0]) ?_ 5 _ rfl; (with_reducible repeat (first | refine blk_drewN ?_ _ | refine blk_drew ?_ | refine blk_alloc ?_ _)); refine blk_put (cs := #[.int .i64 ((rd_T24 l1 a2).f0), .int .i64 ((rd_T24 l1 a2).f1), .int .u8 ((rd_T24 l1 a2).f2), .int .i64 ((rd_T24 l1 a2).f3), .int .i64 0, .int .i64 0]) ?_ 4 _ rfl; (with_reducible repeat (first | refine blk_drewN ?_ _ | refine blk_drew ?_ | refine blk_alloc ?_ _)); refine blk_put (cs := #[.int .i64 ((rd_T24 l1 a2).f0), .int .i64 ((rd_T24 l1 a2).f1), .int .u8 ((rd_T24 l1 a2).f2), .int .i64 0, .int .i64 0, .int .i64 0]) ?_ 3 _ rfl; (with_reducible repeat (first | refine blk_drewN ?_ _ | refine blk_drew ?_ | refine blk_alloc ?_ _)); refine blk_put (cs := #[.int .i64 ((rd_T24 l1 a2).f0), .int .i64 ((rd_T24 l1 a2).f1), .int .u8 0, .int .i64 0, .int .i64 0, .int .i64 0]) ?_ 2 _ rfl; (with_reducible repeat (first | refine blk_drewN ?_ _ | refine blk_drew ?_ | refine blk_alloc ?_ _)); refine blk_put (cs := #[.int .i64 ((rd_T24 l1 a2).f0), .int .i64 0, .int .u8 0, .int .i64 0, .int .i64 0, .int .i64 0]) ?_ 1 _ rfl; (with_reducible repeat (first | refine blk_drewN ?_ _ | refine blk_drew ?_ | refine blk_alloc ?_ _)); refine blk_put (cs := #[.int .i64 0, .int .i64 0, .int .u8 0, .int .i64 0, .int .i64 0, .int .i64 0]) ?_ 0 _ rfl; (with_reducible repeat (first | refine blk_drewN ?_ _ | refine blk_drew ?_ | refine blk_alloc ?_ _)); exact BK145.out)) : gb145 ≠ gb147)); have n9_ := Aside0.mk ((by rw [hg]; exact Nat.ne_of_gt (blk_lt (g := gb145) (o := .cells #[.int .i64 ((rd_T24 l1 a2).f0), .int .i64 ((rd_T24 l1 a2).f1), .int .u8 ((rd_T24 l1 a2).f2), .int .i64 ((rd_T24 l1 a2).f3), .int .i64 ((rd_T24 l1 a2).f4), .int .i64 ((rd_T24 l1 a2).f5)] 24 (0, 0)) (by (with_reducible repeat (first | refine blk_drewN ?_ _ | refine blk_drew ?_ | refine blk_alloc ?_ _)); refine blk_put (cs := #[.int .i64 ((rd_T24 l1 a2).f0), .int .i64 ((rd_T24 l1 a2).f1), .int .u8 ((rd_T24 l1 a2).f2), .int .i64 ((rd_T24 l1 a2).f3), .int .i64 ((rd_T24 l1 a2).f4), .int .i64 0]) ?_ 5 _ rfl; (with_reducible repeat (first | refine blk_drewN ?_ _ | refine blk_drew ?_ | refine blk_alloc ?_ _)); refine blk_put (cs := #[.int .i64 ((rd_T24 l1 a2).f0), .int .i64 ((rd_T24 l1 a2).f1), .int .u8 ((rd_T24 l1 a2).f2), .int .i64 ((rd_T24 l1 a2).f3), .int .i64 0, .int .i64 0]) ?_ 4 _ rfl; (with_reducible repeat (first | refine blk_drewN ?_ _ | refine blk_drew ?_ | refine blk_alloc ?_ _)); refine blk_put (cs := #[.int .i64 ((rd_T24 l1 a2).f0), .int .i64 ((rd_T24 l1 a2).f1), .int .u8 ((rd_T24 l1 a2).f2), .int .i64 0, .int .i64 0, .int .i64 0]) ?_ 3 _ rfl; (with_reducible repeat (first | refine blk_drewN ?_ _ | refine blk_drew ?_ | refine blk_alloc ?_ _)); refine blk_put (cs := #[.int .i64 ((rd_T24 l1 a2).f0), .int .i64 ((rd_T24 l1 a2).f1), .int .u8 0, .int .i64 0, .int .i64 0, .int .i64 0]) ?_ 2 _ rfl; (with_reducible repeat (first | refine blk_drewN ?_ _ | refine blk_drew ?_ | refine blk_alloc ?_ _)); refine blk_put (cs := #[.int .i64 ((rd_T24 l1 a2).f0), .int .i64 0, .int .u8 0, .int .i64 0, .int .i64 0, .int .i64 0]) ?_ 1 _ rfl; (with_reducible repeat (first | refine blk_drewN ?_ _ | refine blk_drew ?_ | refine blk_alloc ?_ _)); refine blk_put (cs := #[.int .i64 0, .int .i64 0, .int .u8 0, .int .i64 0, .int .i64 0, .int .i64 0]) ?_ 0 _ rfl; (with_reducible repeat (first | refine blk_drewN ?_ _ | refine blk_drew ?_ | refine blk_alloc ?_ _)); exact BK145.out)) : gb147 ≠ gb145)); clear BK143; clear BK145; clear HB; have BK143 := n0_; have BK145 := n1_; have HB := n2_; have BK147 := n3_; have GW147 := n4_; have GE147 := n5_; have NB143_147 := n6_; have NB147_143 := n7_; have NB145_147 := n8_; have NB147_145 := n9_; clear n0_ n1_ n2_ n3_ n4_ n5_ n6_ n7_ n8_ n9_; clear hb hbox hg; have hnb19 := NB147_143.out; have hnc19 := NB143_147.out; have hnb20 := NB147_145.out; have hnc20 := NB145_147.out; have hcz21_0 : w18.cell? ⟨gb147, 0, none⟩ = some (.int .i64 0) := (blk_cell BK147.out 0).trans rfl; have hcz21_1 : w18.cell? ⟨gb147, 1, none⟩ = some (.int .i64 0) := (blk_cell BK147.out 1).trans rfl; have hcz21_2 : w18.cell? ⟨gb147, 2, none⟩ = some (.int .u8 0) := (blk_cell BK147.out 2).trans rfl; have hcz21_3 : w18.cell? ⟨gb147, 3, none⟩ = some (.int .i64 0) := (blk_cell BK147.out 3).trans rfl; have hcz21_4 : w18.cell? ⟨gb147, 4, none⟩ = some (.int .i64 0) := (blk_cell BK147.out 4).trans rfl; have hcz21_5 : w18.cell? ⟨gb147, 5, none⟩ = some (.int .i64 0) := (blk_cell BK147.out 5).trans rfl; have hfz21_0 := blk_frozen BK147.out 0; have hfz21_1 := blk_frozen BK147.out 1; have hfz21_2 := blk_frozen BK147.out 2; have hfz21_3 := blk_frozen BK147.out 3; have hfz21_4 := blk_frozen BK147.out 4; have hfz21_5 := blk_frozen BK147.out 5))
             (try simp only [Act.put, List.setIfInBounds_toArray, List.set_cons_zero, List.set_cons_succ])
             go_cut [49] (fun v49 wc => ∃ (kq : Nat) (x49_13 : Bool), v49 = .bool x49_13 ∧ Aside0 (interlockref07_Direct.j1 kq l1 a2 a3 x49_13 a0_0 a0_1 a0_2 l0_3 a0_4 a0_5 l0_6 ((rd_T24 l1 a2).f0) ((rd_T24 l1 a2).f1) ((rd_T24 l1 a2).f2) ((rd_T24 l1 a2).f3) ((rd_T24 l1 a2).f4) ((rd_T24 l1 a2).f5) ((rd_T24 l1 a3).f0) ((rd_T24 l1 a3).f1) ((rd_T24 l1 a3).f2) ((rd_T24 l1 a3).f3) ((rd_T24 l1 a3).f4) ((rd_T24 l1 a3).f5) = some r) ∧ Aside0 (kq ≤ kj4) ∧ Aside0 (wc.heap[gb143]? = some (.cells #[.int .i64 a0_0, .int .i64 a0_1, .int .i64 a0_2, (.slice A0_3 l0_3.length c0_3), .int .i64 a0_4, .int .i64 a0_5, (.slice A0_6 l0_6.length c0_6)] 30 (0, 0))) ∧ Aside0 (wc.heap[gb145]? = some (.cells #[.int .i64 ((rd_T24 l1 a2).f0), .int .i64 ((rd_T24 l1 a2).f1), .int .u8 ((rd_T24 l1 a2).f2), .int .i64 ((rd_T24 l1 a2).f3), .int .i64 ((rd_T24 l1 a2).f4), .int .i64 ((rd_T24 l1 a2).f5)] 24 (0, 0))) ∧ Aside0 (wc.heap[gb147]? = some (.cells #[.int .i64 ((rd_T24 l1 a3).f0), .int .i64 ((rd_T24 l1 a3).f1), .int .u8 ((rd_T24 l1 a3).f2), .int .i64 ((rd_T24 l1 a3).f3), .int .i64 ((rd_T24 l1 a3).f4), .int .i64 ((rd_T24 l1 a3).f5)] 24 (0, 0))) ∧ Aside0 (Below w.heap.size w wc))
             case first =>
              have H := HC14.out
              clear HC14
              by_cases c22 : ((rd_T24 l1 a2).f0) = ((rd_T24 l1 a3).f0)
              · rw [if_pos c22] at H
                have c22b0 : (((rd_T24 l1 a2).f0) == ((rd_T24 l1 a3).f0)) = true := beq_iff_eq.mpr c22
                have c22b1 : (((rd_T24 l1 a2).f0) != ((rd_T24 l1 a3).f0)) = false := bne_eq_false_iff_eq.mpr c22
                clear c22
                (first | rw [c22b0] | (simp only [i64_w, i32_w]; rw [c22b0]) | skip)
                have H' := Aside0.mk H
                clear H
                have hnb23 := NB145_143.out
                have hnc23 := NB143_145.out
                have hnb24 := NB145_147.out
                have hnc24 := NB147_145.out
                have hcz25_0 : w18.cell? ⟨gb145, 0, none⟩ = some (.int .i64 ((rd_T24 l1 a2).f0)) := (blk_cell BK145.out 0).trans rfl
                have hcz25_1 : w18.cell? ⟨gb145, 1, none⟩ = some (.int .i64 ((rd_T24 l1 a2).f1)) := (blk_cell BK145.out 1).trans rfl
                have hcz25_2 : w18.cell? ⟨gb145, 2, none⟩ = some (.int .u8 ((rd_T24 l1 a2).f2)) := (blk_cell BK145.out 2).trans rfl
                have hcz25_3 : w18.cell? ⟨gb145, 3, none⟩ = some (.int .i64 ((rd_T24 l1 a2).f3)) := (blk_cell BK145.out 3).trans rfl
                have hcz25_4 : w18.cell? ⟨gb145, 4, none⟩ = some (.int .i64 ((rd_T24 l1 a2).f4)) := (blk_cell BK145.out 4).trans rfl
                have hcz25_5 : w18.cell? ⟨gb145, 5, none⟩ = some (.int .i64 ((rd_T24 l1 a2).f5)) := (blk_cell BK145.out 5).trans rfl
                have hfz25_0 := blk_frozen BK145.out 0
                have hfz25_1 := blk_frozen BK145.out 1
                have hfz25_2 := blk_frozen BK145.out 2
                have hfz25_3 := blk_frozen BK145.out 3
                have hfz25_4 := blk_frozen BK145.out 4
                have hfz25_5 := blk_frozen BK145.out 5
                have hnb26 := NB147_143.out
                have hnc26 := NB143_147.out
                have hcz27_0 : w18.cell? ⟨gb147, 0, none⟩ = some (.int .i64 0) := (blk_cell BK147.out 0).trans rfl
                have hcz27_1 : w18.cell? ⟨gb147, 1, none⟩ = some (.int .i64 0) := (blk_cell BK147.out 1).trans rfl
                have hcz27_2 : w18.cell? ⟨gb147, 2, none⟩ = some (.int .u8 0) := (blk_cell BK147.out 2).trans rfl
                have hcz27_3 : w18.cell? ⟨gb147, 3, none⟩ = some (.int .i64 0) := (blk_cell BK147.out 3).trans rfl
                have hcz27_4 : w18.cell? ⟨gb147, 4, none⟩ = some (.int .i64 0) := (blk_cell BK147.out 4).trans rfl
                have hcz27_5 : w18.cell? ⟨gb147, 5, none⟩ = some (.int .i64 0) := (blk_cell BK147.out 5).trans rfl
                have hfz27_0 := blk_frozen BK147.out 0
                have hfz27_1 := blk_frozen BK147.out 1
                have hfz27_2 := blk_frozen BK147.out 2
                have hfz27_3 := blk_frozen BK147.out 3
                have hfz27_4 := blk_frozen BK147.out 4
                have hfz27_5 := blk_frozen BK147.out 5
                go_wp2
                go_meet
                case rel => exact ⟨_, (true), (by first | rfl | (simp; done) | (simp [*]; done)), H', ⟨by have := HJ4.out; first | omega | exact Nat.le_refl _⟩, ⟨by (with_reducible repeat (first | refine blk_drewN ?_ _ | refine blk_drew ?_ | refine blk_alloc ?_ _)); refine blk_far ?_ NB143_147.out _; (with_reducible repeat (first | refine blk_drewN ?_ _ | refine blk_drew ?_ | refine blk_alloc ?_ _)); refine blk_far ?_ NB143_147.out _; (with_reducible repeat (first | refine blk_drewN ?_ _ | refine blk_drew ?_ | refine blk_alloc ?_ _)); refine blk_far ?_ NB143_147.out _; (with_reducible repeat (first | refine blk_drewN ?_ _ | refine blk_drew ?_ | refine blk_alloc ?_ _)); refine blk_far ?_ NB143_147.out _; (with_reducible repeat (first | refine blk_drewN ?_ _ | refine blk_drew ?_ | refine blk_alloc ?_ _)); refine blk_far ?_ NB143_147.out _; (with_reducible repeat (first | refine blk_drewN ?_ _ | refine blk_drew ?_ | refine blk_alloc ?_ _)); refine blk_far ?_ NB143_147.out _; (with_reducible repeat (first | refine blk_drewN ?_ _ | refine blk_drew ?_ | refine blk_alloc ?_ _)); exact BK143.out⟩, ⟨by (with_reducible repeat (first | refine blk_drewN ?_ _ | refine blk_drew ?_ | refine blk_alloc ?_ _)); refine blk_far ?_ NB145_147.out _; (with_reducible repeat (first | refine blk_drewN ?_ _ | refine blk_drew ?_ | refine blk_alloc ?_ _)); refine blk_far ?_ NB145_147.out _; (with_reducible repeat (first | refine blk_drewN ?_ _ | refine blk_drew ?_ | refine blk_alloc ?_ _)); refine blk_far ?_ NB145_147.out _; (with_reducible repeat (first | refine blk_drewN ?_ _ | refine blk_drew ?_ | refine blk_alloc ?_ _)); refine blk_far ?_ NB145_147.out _; (with_reducible repeat (first | refine blk_drewN ?_ _ | refine blk_drew ?_ | refine blk_alloc ?_ _)); refine blk_far ?_ NB145_147.out _; (with_reducible repeat (first | refine blk_drewN ?_ _ | refine blk_drew ?_ | refine blk_alloc ?_ _)); refine blk_far ?_ NB145_147.out _; (with_reducible repeat (first | refine blk_drewN ?_ _ | refine blk_drew ?_ | refine blk_alloc ?_ _)); exact BK145.out⟩, ⟨by (with_reducible repeat (first | refine blk_drewN ?_ _ | refine blk_drew ?_ | refine blk_alloc ?_ _)); refine blk_put (cs := #[.int .i64 ((rd_T24 l1 a3).f0), .int .i64 ((rd_T24 l1 a3).f1), .int .u8 ((rd_T24 l1 a3).f2), .int .i64 ((rd_T24 l1 a3).f3), .int .i64 ((rd_T24 l1 a3).f4), .int .i64 0]) ?_ 5 _ rfl; (with_reducible repeat (first | refine blk_drewN ?_ _ | refine blk_drew ?_ | refine blk_alloc ?_ _)); refine blk_put (cs := #[.int .i64 ((rd_T24 l1 a3).f0), .int .i64 ((rd_T24 l1 a3).f1), .int .u8 ((rd_T24 l1 a3).f2), .int .i64 ((rd_T24 l1 a3).f3), .int .i64 0, .int .i64 0]) ?_ 4 _ rfl; (with_reducible repeat (first | refine blk_drewN ?_ _ | refine blk_drew ?_ | refine blk_alloc ?_ _)); refine blk_put (cs := #[.int .i64 ((rd_T24 l1 a3).f0), .int .i64 ((rd_T24 l1 a3).f1), .int .u8 ((rd_T24 l1 a3).f2), .int .i64 0, .int .i64 0, .int .i64 0]) ?_ 3 _ rfl; (with_reducible repeat (first | refine blk_drewN ?_ _ | refine blk_drew ?_ | refine blk_alloc ?_ _)); refine blk_put (cs := #[.int .i64 ((rd_T24 l1 a3).f0), .int .i64 ((rd_T24 l1 a3).f1), .int .u8 0, .int .i64 0, .int .i64 0, .int .i64 0]) ?_ 2 _ rfl; (with_reducible repeat (first | refine blk_drewN ?_ _ | refine blk_drew ?_ | refine blk_alloc ?_ _)); refine blk_put (cs := #[.int .i64 ((rd_T24 l1 a3).f0), .int .i64 0, .int .u8 0, .int .i64 0, .int .i64 0, .int .i64 0]) ?_ 1 _ rfl; (with_reducible repeat (first | refine blk_drewN ?_ _ | refine blk_drew ?_ | refine blk_alloc ?_ _)); refine blk_put (cs := #[.int .i64 0, .int .i64 0, .int .u8 0, .int .i64 0, .int .i64 0, .int .i64 0]) ?_ 0 _ rfl; (with_reducible repeat (first | refine blk_drewN ?_ _ | refine blk_drew ?_ | refine blk_alloc ?_ _)); exact BK147.out⟩, ⟨by repeat (first | (with_reducible first | exact HB.out | apply below_alloc | apply pw_below_drewN | apply below_drew1 | refine below_set ?_ GE143.out | refine below_set ?_ GE145.out | refine below_set ?_ GE147.out) | exact HB.out)⟩⟩
              · rw [if_neg c22] at H
                have c22b0 : (((rd_T24 l1 a2).f0) == ((rd_T24 l1 a3).f0)) = false := beq_eq_false_iff_ne.mpr c22
                have c22b1 : (((rd_T24 l1 a2).f0) != ((rd_T24 l1 a3).f0)) = true := bne_iff_ne.mpr c22
                (first | rw [c22b0] | (simp only [i64_w, i32_w]; rw [c22b0]) | skip)
                by_cases c28 : ((rd_T24 l1 a2).f2) = 12
                · rw [if_pos c28] at H
                  have c28b0 : (((rd_T24 l1 a2).f2) == 12) = true := beq_iff_eq.mpr c28
                  have c28b1 : (((rd_T24 l1 a2).f2) != 12) = false := bne_eq_false_iff_eq.mpr c28
                  clear c28
                  have H' := Aside0.mk H
                  clear H
                  have hnb29 := NB145_143.out
                  have hnc29 := NB143_145.out
                  have hnb30 := NB145_147.out
                  have hnc30 := NB147_145.out
                  have hcz31_0 : w18.cell? ⟨gb145, 0, none⟩ = some (.int .i64 ((rd_T24 l1 a2).f0)) := (blk_cell BK145.out 0).trans rfl
                  have hcz31_1 : w18.cell? ⟨gb145, 1, none⟩ = some (.int .i64 ((rd_T24 l1 a2).f1)) := (blk_cell BK145.out 1).trans rfl
                  have hcz31_2 : w18.cell? ⟨gb145, 2, none⟩ = some (.int .u8 ((rd_T24 l1 a2).f2)) := (blk_cell BK145.out 2).trans rfl
                  have hcz31_3 : w18.cell? ⟨gb145, 3, none⟩ = some (.int .i64 ((rd_T24 l1 a2).f3)) := (blk_cell BK145.out 3).trans rfl
                  have hcz31_4 : w18.cell? ⟨gb145, 4, none⟩ = some (.int .i64 ((rd_T24 l1 a2).f4)) := (blk_cell BK145.out 4).trans rfl
                  have hcz31_5 : w18.cell? ⟨gb145, 5, none⟩ = some (.int .i64 ((rd_T24 l1 a2).f5)) := (blk_cell BK145.out 5).trans rfl
                  have hfz31_0 := blk_frozen BK145.out 0
                  have hfz31_1 := blk_frozen BK145.out 1
                  have hfz31_2 := blk_frozen BK145.out 2
                  have hfz31_3 := blk_frozen BK145.out 3
                  have hfz31_4 := blk_frozen BK145.out 4
                  have hfz31_5 := blk_frozen BK145.out 5
                  have hnb32 := NB147_143.out
                  have hnc32 := NB143_147.out
                  have hcz33_0 : w18.cell? ⟨gb147, 0, none⟩ = some (.int .i64 0) := (blk_cell BK147.out 0).trans rfl
                  have hcz33_1 : w18.cell? ⟨gb147, 1, none⟩ = some (.int .i64 0) := (blk_cell BK147.out 1).trans rfl
                  have hcz33_2 : w18.cell? ⟨gb147, 2, none⟩ = some (.int .u8 0) := (blk_cell BK147.out 2).trans rfl
                  have hcz33_3 : w18.cell? ⟨gb147, 3, none⟩ = some (.int .i64 0) := (blk_cell BK147.out 3).trans rfl
                  have hcz33_4 : w18.cell? ⟨gb147, 4, none⟩ = some (.int .i64 0) := (blk_cell BK147.out 4).trans rfl
                  have hcz33_5 : w18.cell? ⟨gb147, 5, none⟩ = some (.int .i64 0) := (blk_cell BK147.out 5).trans rfl
                  have hfz33_0 := blk_frozen BK147.out 0
                  have hfz33_1 := blk_frozen BK147.out 1
                  have hfz33_2 := blk_frozen BK147.out 2
                  have hfz33_3 := blk_frozen BK147.out 3
                  have hfz33_4 := blk_frozen BK147.out 4
                  have hfz33_5 := blk_frozen BK147.out 5
                  go_wp2
                  go_meet
                  case rel => exact ⟨_, ((((rd_T24 l1 a2).f3) == ((rd_T24 l1 a3).f0))), (by first | rfl | (simp; done) | (simp [*]; done)), H', ⟨by have := HJ4.out; first | omega | exact Nat.le_refl _⟩, ⟨by (with_reducible repeat (first | refine blk_drewN ?_ _ | refine blk_drew ?_ | refine blk_alloc ?_ _)); refine blk_far ?_ NB143_147.out _; (with_reducible repeat (first | refine blk_drewN ?_ _ | refine blk_drew ?_ | refine blk_alloc ?_ _)); refine blk_far ?_ NB143_147.out _; (with_reducible repeat (first | refine blk_drewN ?_ _ | refine blk_drew ?_ | refine blk_alloc ?_ _)); refine blk_far ?_ NB143_147.out _; (with_reducible repeat (first | refine blk_drewN ?_ _ | refine blk_drew ?_ | refine blk_alloc ?_ _)); refine blk_far ?_ NB143_147.out _; (with_reducible repeat (first | refine blk_drewN ?_ _ | refine blk_drew ?_ | refine blk_alloc ?_ _)); refine blk_far ?_ NB143_147.out _; (with_reducible repeat (first | refine blk_drewN ?_ _ | refine blk_drew ?_ | refine blk_alloc ?_ _)); refine blk_far ?_ NB143_147.out _; (with_reducible repeat (first | refine blk_drewN ?_ _ | refine blk_drew ?_ | refine blk_alloc ?_ _)); exact BK143.out⟩, ⟨by (with_reducible repeat (first | refine blk_drewN ?_ _ | refine blk_drew ?_ | refine blk_alloc ?_ _)); refine blk_far ?_ NB145_147.out _; (with_reducible repeat (first | refine blk_drewN ?_ _ | refine blk_drew ?_ | refine blk_alloc ?_ _)); refine blk_far ?_ NB145_147.out _; (with_reducible repeat (first | refine blk_drewN ?_ _ | refine blk_drew ?_ | refine blk_alloc ?_ _)); refine blk_far ?_ NB145_147.out _; (with_reducible repeat (first | refine blk_drewN ?_ _ | refine blk_drew ?_ | refine blk_alloc ?_ _)); refine blk_far ?_ NB145_147.out _; (with_reducible repeat (first | refine blk_drewN ?_ _ | refine blk_drew ?_ | refine blk_alloc ?_ _)); refine blk_far ?_ NB145_147.out _; (with_reducible repeat (first | refine blk_drewN ?_ _ | refine blk_drew ?_ | refine blk_alloc ?_ _)); refine blk_far ?_ NB145_147.out _; (with_reducible repeat (first | refine blk_drewN ?_ _ | refine blk_drew ?_ | refine blk_alloc ?_ _)); exact BK145.out⟩, ⟨by (with_reducible repeat (first | refine blk_drewN ?_ _ | refine blk_drew ?_ | refine blk_alloc ?_ _)); refine blk_put (cs := #[.int .i64 ((rd_T24 l1 a3).f0), .int .i64 ((rd_T24 l1 a3).f1), .int .u8 ((rd_T24 l1 a3).f2), .int .i64 ((rd_T24 l1 a3).f3), .int .i64 ((rd_T24 l1 a3).f4), .int .i64 0]) ?_ 5 _ rfl; (with_reducible repeat (first | refine blk_drewN ?_ _ | refine blk_drew ?_ | refine blk_alloc ?_ _)); refine blk_put (cs := #[.int .i64 ((rd_T24 l1 a3).f0), .int .i64 ((rd_T24 l1 a3).f1), .int .u8 ((rd_T24 l1 a3).f2), .int .i64 ((rd_T24 l1 a3).f3), .int .i64 0, .int .i64 0]) ?_ 4 _ rfl; (with_reducible repeat (first | refine blk_drewN ?_ _ | refine blk_drew ?_ | refine blk_alloc ?_ _)); refine blk_put (cs := #[.int .i64 ((rd_T24 l1 a3).f0), .int .i64 ((rd_T24 l1 a3).f1), .int .u8 ((rd_T24 l1 a3).f2), .int .i64 0, .int .i64 0, .int .i64 0]) ?_ 3 _ rfl; (with_reducible repeat (first | refine blk_drewN ?_ _ | refine blk_drew ?_ | refine blk_alloc ?_ _)); refine blk_put (cs := #[.int .i64 ((rd_T24 l1 a3).f0), .int .i64 ((rd_T24 l1 a3).f1), .int .u8 0, .int .i64 0, .int .i64 0, .int .i64 0]) ?_ 2 _ rfl; (with_reducible repeat (first | refine blk_drewN ?_ _ | refine blk_drew ?_ | refine blk_alloc ?_ _)); refine blk_put (cs := #[.int .i64 ((rd_T24 l1 a3).f0), .int .i64 0, .int .u8 0, .int .i64 0, .int .i64 0, .int .i64 0]) ?_ 1 _ rfl; (with_reducible repeat (first | refine blk_drewN ?_ _ | refine blk_drew ?_ | refine blk_alloc ?_ _)); refine blk_put (cs := #[.int .i64 0, .int .i64 0, .int .u8 0, .int .i64 0, .int .i64 0, .int .i64 0]) ?_ 0 _ rfl; (with_reducible repeat (first | refine blk_drewN ?_ _ | refine blk_drew ?_ | refine blk_alloc ?_ _)); exact BK147.out⟩, ⟨by repeat (first | (with_reducible first | exact HB.out | apply below_alloc | apply pw_below_drewN | apply below_drew1 | refine below_set ?_ GE143.out | refine below_set ?_ GE145.out | refine below_set ?_ GE147.out) | exact HB.out)⟩⟩
                · rw [if_neg c28] at H
                  have c28b0 : (((rd_T24 l1 a2).f2) == 12) = false := beq_eq_false_iff_ne.mpr c28
                  have c28b1 : (((rd_T24 l1 a2).f2) != 12) = true := bne_iff_ne.mpr c28
                  have H' := Aside0.mk H
                  clear H
                  have hnb34 := NB145_143.out
                  have hnc34 := NB143_145.out
                  have hnb35 := NB145_147.out
                  have hnc35 := NB147_145.out
                  have hcz36_0 : w18.cell? ⟨gb145, 0, none⟩ = some (.int .i64 ((rd_T24 l1 a2).f0)) := (blk_cell BK145.out 0).trans rfl
                  have hcz36_1 : w18.cell? ⟨gb145, 1, none⟩ = some (.int .i64 ((rd_T24 l1 a2).f1)) := (blk_cell BK145.out 1).trans rfl
                  have hcz36_2 : w18.cell? ⟨gb145, 2, none⟩ = some (.int .u8 ((rd_T24 l1 a2).f2)) := (blk_cell BK145.out 2).trans rfl
                  have hcz36_3 : w18.cell? ⟨gb145, 3, none⟩ = some (.int .i64 ((rd_T24 l1 a2).f3)) := (blk_cell BK145.out 3).trans rfl
                  have hcz36_4 : w18.cell? ⟨gb145, 4, none⟩ = some (.int .i64 ((rd_T24 l1 a2).f4)) := (blk_cell BK145.out 4).trans rfl
                  have hcz36_5 : w18.cell? ⟨gb145, 5, none⟩ = some (.int .i64 ((rd_T24 l1 a2).f5)) := (blk_cell BK145.out 5).trans rfl
                  have hfz36_0 := blk_frozen BK145.out 0
                  have hfz36_1 := blk_frozen BK145.out 1
                  have hfz36_2 := blk_frozen BK145.out 2
                  have hfz36_3 := blk_frozen BK145.out 3
                  have hfz36_4 := blk_frozen BK145.out 4
                  have hfz36_5 := blk_frozen BK145.out 5
                  have hnb37 := NB147_143.out
                  have hnc37 := NB143_147.out
                  have hcz38_0 : w18.cell? ⟨gb147, 0, none⟩ = some (.int .i64 0) := (blk_cell BK147.out 0).trans rfl
                  have hcz38_1 : w18.cell? ⟨gb147, 1, none⟩ = some (.int .i64 0) := (blk_cell BK147.out 1).trans rfl
                  have hcz38_2 : w18.cell? ⟨gb147, 2, none⟩ = some (.int .u8 0) := (blk_cell BK147.out 2).trans rfl
                  have hcz38_3 : w18.cell? ⟨gb147, 3, none⟩ = some (.int .i64 0) := (blk_cell BK147.out 3).trans rfl
                  have hcz38_4 : w18.cell? ⟨gb147, 4, none⟩ = some (.int .i64 0) := (blk_cell BK147.out 4).trans rfl
                  have hcz38_5 : w18.cell? ⟨gb147, 5, none⟩ = some (.int .i64 0) := (blk_cell BK147.out 5).trans rfl
                  have hfz38_0 := blk_frozen BK147.out 0
                  have hfz38_1 := blk_frozen BK147.out 1
                  have hfz38_2 := blk_frozen BK147.out 2
                  have hfz38_3 := blk_frozen BK147.out 3
                  have hfz38_4 := blk_frozen BK147.out 4
                  have hfz38_5 := blk_frozen BK147.out 5
                  go_wp2
                  go_meet
                  case rel => exact ⟨_, (false), (by first | rfl | (simp; done) | (simp [*]; done)), H', ⟨by have := HJ4.out; first | omega | exact Nat.le_refl _⟩, ⟨by (with_reducible repeat (first | refine blk_drewN ?_ _ | refine blk_drew ?_ | refine blk_alloc ?_ _)); refine blk_far ?_ NB143_147.out _; (with_reducible repeat (first | refine blk_drewN ?_ _ | refine blk_drew ?_ | refine blk_alloc ?_ _)); refine blk_far ?_ NB143_147.out _; (with_reducible repeat (first | refine blk_drewN ?_ _ | refine blk_drew ?_ | refine blk_alloc ?_ _)); refine blk_far ?_ NB143_147.out _; (with_reducible repeat (first | refine blk_drewN ?_ _ | refine blk_drew ?_ | refine blk_alloc ?_ _)); refine blk_far ?_ NB143_147.out _; (with_reducible repeat (first | refine blk_drewN ?_ _ | refine blk_drew ?_ | refine blk_alloc ?_ _)); refine blk_far ?_ NB143_147.out _; (with_reducible repeat (first | refine blk_drewN ?_ _ | refine blk_drew ?_ | refine blk_alloc ?_ _)); refine blk_far ?_ NB143_147.out _; (with_reducible repeat (first | refine blk_drewN ?_ _ | refine blk_drew ?_ | refine blk_alloc ?_ _)); exact BK143.out⟩, ⟨by (with_reducible repeat (first | refine blk_drewN ?_ _ | refine blk_drew ?_ | refine blk_alloc ?_ _)); refine blk_far ?_ NB145_147.out _; (with_reducible repeat (first | refine blk_drewN ?_ _ | refine blk_drew ?_ | refine blk_alloc ?_ _)); refine blk_far ?_ NB145_147.out _; (with_reducible repeat (first | refine blk_drewN ?_ _ | refine blk_drew ?_ | refine blk_alloc ?_ _)); refine blk_far ?_ NB145_147.out _; (with_reducible repeat (first | refine blk_drewN ?_ _ | refine blk_drew ?_ | refine blk_alloc ?_ _)); refine blk_far ?_ NB145_147.out _; (with_reducible repeat (first | refine blk_drewN ?_ _ | refine blk_drew ?_ | refine blk_alloc ?_ _)); refine blk_far ?_ NB145_147.out _; (with_reducible repeat (first | refine blk_drewN ?_ _ | refine blk_drew ?_ | refine blk_alloc ?_ _)); refine blk_far ?_ NB145_147.out _; (with_reducible repeat (first | refine blk_drewN ?_ _ | refine blk_drew ?_ | refine blk_alloc ?_ _)); exact BK145.out⟩, ⟨by (with_reducible repeat (first | refine blk_drewN ?_ _ | refine blk_drew ?_ | refine blk_alloc ?_ _)); refine blk_put (cs := #[.int .i64 ((rd_T24 l1 a3).f0), .int .i64 ((rd_T24 l1 a3).f1), .int .u8 ((rd_T24 l1 a3).f2), .int .i64 ((rd_T24 l1 a3).f3), .int .i64 ((rd_T24 l1 a3).f4), .int .i64 0]) ?_ 5 _ rfl; (with_reducible repeat (first | refine blk_drewN ?_ _ | refine blk_drew ?_ | refine blk_alloc ?_ _)); refine blk_put (cs := #[.int .i64 ((rd_T24 l1 a3).f0), .int .i64 ((rd_T24 l1 a3).f1), .int .u8 ((rd_T24 l1 a3).f2), .int .i64 ((rd_T24 l1 a3).f3), .int .i64 0, .int .i64 0]) ?_ 4 _ rfl; (with_reducible repeat (first | refine blk_drewN ?_ _ | refine blk_drew ?_ | refine blk_alloc ?_ _)); refine blk_put (cs := #[.int .i64 ((rd_T24 l1 a3).f0), .int .i64 ((rd_T24 l1 a3).f1), .int .u8 ((rd_T24 l1 a3).f2), .int .i64 0, .int .i64 0, .int .i64 0]) ?_ 3 _ rfl; (with_reducible repeat (first | refine blk_drewN ?_ _ | refine blk_drew ?_ | refine blk_alloc ?_ _)); refine blk_put (cs := #[.int .i64 ((rd_T24 l1 a3).f0), .int .i64 ((rd_T24 l1 a3).f1), .int .u8 0, .int .i64 0, .int .i64 0, .int .i64 0]) ?_ 2 _ rfl; (with_reducible repeat (first | refine blk_drewN ?_ _ | refine blk_drew ?_ | refine blk_alloc ?_ _)); refine blk_put (cs := #[.int .i64 ((rd_T24 l1 a3).f0), .int .i64 0, .int .u8 0, .int .i64 0, .int .i64 0, .int .i64 0]) ?_ 1 _ rfl; (with_reducible repeat (first | refine blk_drewN ?_ _ | refine blk_drew ?_ | refine blk_alloc ?_ _)); refine blk_put (cs := #[.int .i64 0, .int .i64 0, .int .u8 0, .int .i64 0, .int .i64 0, .int .i64 0]) ?_ 0 _ rfl; (with_reducible repeat (first | refine blk_drewN ?_ _ | refine blk_drew ?_ | refine blk_alloc ?_ _)); exact BK147.out⟩, ⟨by repeat (first | (with_reducible first | exact HB.out | apply below_alloc | apply pw_below_drewN | apply below_drew1 | refine below_set ?_ GE143.out | refine below_set ?_ GE145.out | refine below_set ?_ GE147.out) | exact HB.out)⟩⟩
             case rest =>
              clear HC14
              try clear c1
              try clear p1
              try clear q1
              try clear hx1
              try clear c2
              try clear p2
              try clear c3
              try clear c7
              try clear c7b0
              try clear c8
              try clear c8b0
              try clear c9
              try clear c10
              try clear c10b0
              try clear c11
              try clear c11b0
              try clear c12
              try clear c12b0
              try clear c13
              try clear c13b0
              try clear p14
              try clear q14
              try clear hx14
              try clear c16
              try clear c19
              try clear c20
              try clear c22
              try clear c22b0
              try clear c22b1
              try clear c23
              try clear c24
              try clear c26
              try clear c28
              try clear c28b0
              try clear c28b1
              try clear c29
              try clear c30
              try clear c32
              try clear c34
              try clear c35
              try clear c37
              try clear hcz17_0
              try clear hcz17_1
              try clear hcz17_2
              try clear hcz17_3
              try clear hcz17_4
              try clear hcz17_5
              try clear hcz21_0
              try clear hcz21_1
              try clear hcz21_2
              try clear hcz21_3
              try clear hcz21_4
              try clear hcz21_5
              try clear hcz25_0
              try clear hcz25_1
              try clear hcz25_2
              try clear hcz25_3
              try clear hcz25_4
              try clear hcz25_5
              try clear hcz27_0
              try clear hcz27_1
              try clear hcz27_2
              try clear hcz27_3
              try clear hcz27_4
              try clear hcz27_5
              try clear hcz31_0
              try clear hcz31_1
              try clear hcz31_2
              try clear hcz31_3
              try clear hcz31_4
              try clear hcz31_5
              try clear hcz33_0
              try clear hcz33_1
              try clear hcz33_2
              try clear hcz33_3
              try clear hcz33_4
              try clear hcz33_5
              try clear hcz36_0
              try clear hcz36_1
              try clear hcz36_2
              try clear hcz36_3
              try clear hcz36_4
              try clear hcz36_5
              try clear hcz38_0
              try clear hcz38_1
              try clear hcz38_2
              try clear hcz38_3
              try clear hcz38_4
              try clear hcz38_5
              try clear hfz17_0
              try clear hfz17_1
              try clear hfz17_2
              try clear hfz17_3
              try clear hfz17_4
              try clear hfz17_5
              try clear hfz21_0
              try clear hfz21_1
              try clear hfz21_2
              try clear hfz21_3
              try clear hfz21_4
              try clear hfz21_5
              try clear hfz25_0
              try clear hfz25_1
              try clear hfz25_2
              try clear hfz25_3
              try clear hfz25_4
              try clear hfz25_5
              try clear hfz27_0
              try clear hfz27_1
              try clear hfz27_2
              try clear hfz27_3
              try clear hfz27_4
              try clear hfz27_5
              try clear hfz31_0
              try clear hfz31_1
              try clear hfz31_2
              try clear hfz31_3
              try clear hfz31_4
              try clear hfz31_5
              try clear hfz33_0
              try clear hfz33_1
              try clear hfz33_2
              try clear hfz33_3
              try clear hfz33_4
              try clear hfz33_5
              try clear hfz36_0
              try clear hfz36_1
              try clear hfz36_2
              try clear hfz36_3
              try clear hfz36_4
              try clear hfz36_5
              try clear hfz38_0
              try clear hfz38_1
              try clear hfz38_2
              try clear hfz38_3
              try clear hfz38_4
              try clear hfz38_5
              try clear hx144_0
              try clear hx144_1
              try clear hx144_2
              try clear hx144_3
              try clear hx144_4
              try clear hx144_5
              try clear hx146_0
              try clear hx146_1
              try clear hx146_2
              try clear hx146_3
              try clear hx146_4
              try clear hx146_5
              try clear p144
              try clear p146
              try clear p2
              try clear q144
              try clear q146
              obtain ⟨kq, x49_13, rfl, HA, HJ13, BK143, BK145, BK147, HB⟩ := hcut
              cases kq with
              | zero => exact absurd HA.out (by simp [interlockref07_Direct.j1])
              | succ kj13 =>
               have H := HA.out
               clear HA
               simp only [interlockref07_Direct.j1] at H
               by_cases c39 : x49_13 = true
               · subst c39
                 have H1 : (some true) = some r := by rw [if_pos rfl] at H; exact H
                 clear H
                 have H := H1
                 clear H1
                 obtain rfl := Option.some.inj H
                 go_wp2
                 go_ret
                 exact ⟨by first | rfl | (simp [errW_none, errW_some] <;> rfl) | (simp [*, errW_none, errW_some] <;> rfl), by repeat (first | (with_reducible first | exact HB.out | apply below_alloc | apply pw_below_drewN | apply below_drew1 | refine below_set ?_ GE143.out | refine below_set ?_ GE145.out | refine below_set ?_ GE147.out) | exact HB.out)⟩
               · replace c39 := Bool.eq_false_iff.mpr c39
                 subst c39
                 have H1 : (if ((rd_T24 l1 a2).f3) = ((rd_T24 l1 a3).f3) then (if ((rd_T24 l1 a3).f2) = 21 then (interlockref07_Direct.j2 kj13 l1 a2 a3 (((rd_T24 l1 a3).f5) == 2) a0_0 a0_1 a0_2 l0_3 a0_4 a0_5 l0_6 ((rd_T24 l1 a2).f0) ((rd_T24 l1 a2).f1) ((rd_T24 l1 a2).f2) ((rd_T24 l1 a2).f3) ((rd_T24 l1 a2).f4) ((rd_T24 l1 a2).f5) ((rd_T24 l1 a3).f0) ((rd_T24 l1 a3).f1) ((rd_T24 l1 a3).f2) ((rd_T24 l1 a3).f3) ((rd_T24 l1 a3).f4) ((rd_T24 l1 a3).f5)) else (if ((rd_T24 l1 a3).f2) = 22 then (interlockref07_Direct.j2 kj13 l1 a2 a3 (((rd_T24 l1 a3).f5) == 2) a0_0 a0_1 a0_2 l0_3 a0_4 a0_5 l0_6 ((rd_T24 l1 a2).f0) ((rd_T24 l1 a2).f1) ((rd_T24 l1 a2).f2) ((rd_T24 l1 a2).f3) ((rd_T24 l1 a2).f4) ((rd_T24 l1 a2).f5) ((rd_T24 l1 a3).f0) ((rd_T24 l1 a3).f1) ((rd_T24 l1 a3).f2) ((rd_T24 l1 a3).f3) ((rd_T24 l1 a3).f4) ((rd_T24 l1 a3).f5)) else (interlockref07_Direct.j2 kj13 l1 a2 a3 false a0_0 a0_1 a0_2 l0_3 a0_4 a0_5 l0_6 ((rd_T24 l1 a2).f0) ((rd_T24 l1 a2).f1) ((rd_T24 l1 a2).f2) ((rd_T24 l1 a2).f3) ((rd_T24 l1 a2).f4) ((rd_T24 l1 a2).f5) ((rd_T24 l1 a3).f0) ((rd_T24 l1 a3).f1) ((rd_T24 l1 a3).f2) ((rd_T24 l1 a3).f3) ((rd_T24 l1 a3).f4) ((rd_T24 l1 a3).f5)))) else (some false)) = some r := by rw [if_neg (show ¬ (false = true) by decide)] at H; exact H
                 clear H
                 have H := H1
                 clear H1
                 by_cases c40 : ((rd_T24 l1 a2).f3) = ((rd_T24 l1 a3).f3)
                 · rw [if_pos c40] at H
                   have c40b0 : (((rd_T24 l1 a2).f3) == ((rd_T24 l1 a3).f3)) = true := beq_iff_eq.mpr c40
                   have c40b1 : (((rd_T24 l1 a2).f3) != ((rd_T24 l1 a3).f3)) = false := bne_eq_false_iff_eq.mpr c40
                   clear c40
                   have HC41 := Aside0.mk H
                   clear H
                   have hnb42 := NB145_143.out
                   have hnc42 := NB143_145.out
                   have hnb43 := NB145_147.out
                   have hnc43 := NB147_145.out
                   have hcz44_0 : wc.cell? ⟨gb145, 0, none⟩ = some (.int .i64 ((rd_T24 l1 a2).f0)) := (blk_cell BK145.out 0).trans rfl
                   have hcz44_1 : wc.cell? ⟨gb145, 1, none⟩ = some (.int .i64 ((rd_T24 l1 a2).f1)) := (blk_cell BK145.out 1).trans rfl
                   have hcz44_2 : wc.cell? ⟨gb145, 2, none⟩ = some (.int .u8 ((rd_T24 l1 a2).f2)) := (blk_cell BK145.out 2).trans rfl
                   have hcz44_3 : wc.cell? ⟨gb145, 3, none⟩ = some (.int .i64 ((rd_T24 l1 a2).f3)) := (blk_cell BK145.out 3).trans rfl
                   have hcz44_4 : wc.cell? ⟨gb145, 4, none⟩ = some (.int .i64 ((rd_T24 l1 a2).f4)) := (blk_cell BK145.out 4).trans rfl
                   have hcz44_5 : wc.cell? ⟨gb145, 5, none⟩ = some (.int .i64 ((rd_T24 l1 a2).f5)) := (blk_cell BK145.out 5).trans rfl
                   have hfz44_0 := blk_frozen BK145.out 0
                   have hfz44_1 := blk_frozen BK145.out 1
                   have hfz44_2 := blk_frozen BK145.out 2
                   have hfz44_3 := blk_frozen BK145.out 3
                   have hfz44_4 := blk_frozen BK145.out 4
                   have hfz44_5 := blk_frozen BK145.out 5
                   have hnb45 := NB147_143.out
                   have hnc45 := NB143_147.out
                   have hcz46_0 : wc.cell? ⟨gb147, 0, none⟩ = some (.int .i64 ((rd_T24 l1 a3).f0)) := (blk_cell BK147.out 0).trans rfl
                   have hcz46_1 : wc.cell? ⟨gb147, 1, none⟩ = some (.int .i64 ((rd_T24 l1 a3).f1)) := (blk_cell BK147.out 1).trans rfl
                   have hcz46_2 : wc.cell? ⟨gb147, 2, none⟩ = some (.int .u8 ((rd_T24 l1 a3).f2)) := (blk_cell BK147.out 2).trans rfl
                   have hcz46_3 : wc.cell? ⟨gb147, 3, none⟩ = some (.int .i64 ((rd_T24 l1 a3).f3)) := (blk_cell BK147.out 3).trans rfl
                   have hcz46_4 : wc.cell? ⟨gb147, 4, none⟩ = some (.int .i64 ((rd_T24 l1 a3).f4)) := (blk_cell BK147.out 4).trans rfl
                   have hcz46_5 : wc.cell? ⟨gb147, 5, none⟩ = some (.int .i64 ((rd_T24 l1 a3).f5)) := (blk_cell BK147.out 5).trans rfl
                   have hfz46_0 := blk_frozen BK147.out 0
                   have hfz46_1 := blk_frozen BK147.out 1
                   have hfz46_2 := blk_frozen BK147.out 2
                   have hfz46_3 := blk_frozen BK147.out 3
                   have hfz46_4 := blk_frozen BK147.out 4
                   have hfz46_5 := blk_frozen BK147.out 5
                   go_upto_region 9 with (fail)
                   go_cut [11] (fun v11 wc => ∃ (kq : Nat) (x11_40 : Bool), v11 = .bool x11_40 ∧ Aside0 (interlockref07_Direct.j2 kq l1 a2 a3 x11_40 a0_0 a0_1 a0_2 l0_3 a0_4 a0_5 l0_6 ((rd_T24 l1 a2).f0) ((rd_T24 l1 a2).f1) ((rd_T24 l1 a2).f2) ((rd_T24 l1 a2).f3) ((rd_T24 l1 a2).f4) ((rd_T24 l1 a2).f5) ((rd_T24 l1 a3).f0) ((rd_T24 l1 a3).f1) ((rd_T24 l1 a3).f2) ((rd_T24 l1 a3).f3) ((rd_T24 l1 a3).f4) ((rd_T24 l1 a3).f5) = some r) ∧ Aside0 (kq ≤ kj13) ∧ Aside0 (wc.heap[gb143]? = some (.cells #[.int .i64 a0_0, .int .i64 a0_1, .int .i64 a0_2, (.slice A0_3 l0_3.length c0_3), .int .i64 a0_4, .int .i64 a0_5, (.slice A0_6 l0_6.length c0_6)] 30 (0, 0))) ∧ Aside0 (wc.heap[gb145]? = some (.cells #[.int .i64 ((rd_T24 l1 a2).f0), .int .i64 ((rd_T24 l1 a2).f1), .int .u8 ((rd_T24 l1 a2).f2), .int .i64 ((rd_T24 l1 a2).f3), .int .i64 ((rd_T24 l1 a2).f4), .int .i64 ((rd_T24 l1 a2).f5)] 24 (0, 0))) ∧ Aside0 (wc.heap[gb147]? = some (.cells #[.int .i64 ((rd_T24 l1 a3).f0), .int .i64 ((rd_T24 l1 a3).f1), .int .u8 ((rd_T24 l1 a3).f2), .int .i64 ((rd_T24 l1 a3).f3), .int .i64 ((rd_T24 l1 a3).f4), .int .i64 ((rd_T24 l1 a3).f5)] 24 (0, 0))) ∧ Aside0 (Below w.heap.size w wc))
                   case first =>
                    have H := HC41.out
                    clear HC41
                    by_cases c47 : ((rd_T24 l1 a3).f2) = 21
                    · rw [if_pos c47] at H
                      have c47b0 : (((rd_T24 l1 a3).f2) == 21) = true := beq_iff_eq.mpr c47
                      have c47b1 : (((rd_T24 l1 a3).f2) != 21) = false := bne_eq_false_iff_eq.mpr c47
                      clear c47
                      (first | rw [c47b0] | (simp only [i64_w, i32_w]; rw [c47b0]) | skip)
                      have H' := Aside0.mk H
                      clear H
                      have hnb48 := NB147_143.out
                      have hnc48 := NB143_147.out
                      have hnb49 := NB147_145.out
                      have hnc49 := NB145_147.out
                      have hcz50_0 : wc.cell? ⟨gb147, 0, none⟩ = some (.int .i64 ((rd_T24 l1 a3).f0)) := (blk_cell BK147.out 0).trans rfl
                      have hcz50_1 : wc.cell? ⟨gb147, 1, none⟩ = some (.int .i64 ((rd_T24 l1 a3).f1)) := (blk_cell BK147.out 1).trans rfl
                      have hcz50_2 : wc.cell? ⟨gb147, 2, none⟩ = some (.int .u8 ((rd_T24 l1 a3).f2)) := (blk_cell BK147.out 2).trans rfl
                      have hcz50_3 : wc.cell? ⟨gb147, 3, none⟩ = some (.int .i64 ((rd_T24 l1 a3).f3)) := (blk_cell BK147.out 3).trans rfl
                      have hcz50_4 : wc.cell? ⟨gb147, 4, none⟩ = some (.int .i64 ((rd_T24 l1 a3).f4)) := (blk_cell BK147.out 4).trans rfl
                      have hcz50_5 : wc.cell? ⟨gb147, 5, none⟩ = some (.int .i64 ((rd_T24 l1 a3).f5)) := (blk_cell BK147.out 5).trans rfl
                      have hfz50_0 := blk_frozen BK147.out 0
                      have hfz50_1 := blk_frozen BK147.out 1
                      have hfz50_2 := blk_frozen BK147.out 2
                      have hfz50_3 := blk_frozen BK147.out 3
                      have hfz50_4 := blk_frozen BK147.out 4
                      have hfz50_5 := blk_frozen BK147.out 5
                      go_wp2
                      go_meet
                      case rel => exact ⟨_, ((((rd_T24 l1 a3).f5) == 2)), (by first | rfl | (simp; done) | (simp [*]; done)), H', ⟨by have := HJ4.out; have := HJ13.out; first | omega | exact Nat.le_refl _⟩, ⟨by (with_reducible repeat (first | refine blk_drewN ?_ _ | refine blk_drew ?_ | refine blk_alloc ?_ _)); exact BK143.out⟩, ⟨by (with_reducible repeat (first | refine blk_drewN ?_ _ | refine blk_drew ?_ | refine blk_alloc ?_ _)); exact BK145.out⟩, ⟨by (with_reducible repeat (first | refine blk_drewN ?_ _ | refine blk_drew ?_ | refine blk_alloc ?_ _)); exact BK147.out⟩, ⟨by repeat (first | (with_reducible first | exact HB.out | apply below_alloc | apply pw_below_drewN | apply below_drew1 | refine below_set ?_ GE143.out | refine below_set ?_ GE145.out | refine below_set ?_ GE147.out) | exact HB.out)⟩⟩
                    · rw [if_neg c47] at H
                      have c47b0 : (((rd_T24 l1 a3).f2) == 21) = false := beq_eq_false_iff_ne.mpr c47
                      have c47b1 : (((rd_T24 l1 a3).f2) != 21) = true := bne_iff_ne.mpr c47
                      (first | rw [c47b0] | (simp only [i64_w, i32_w]; rw [c47b0]) | skip)
                      by_cases c51 : ((rd_T24 l1 a3).f2) = 22
                      · rw [if_pos c51] at H
                        have c51b0 : (((rd_T24 l1 a3).f2) == 22) = true := beq_iff_eq.mpr c51
                        have c51b1 : (((rd_T24 l1 a3).f2) != 22) = false := bne_eq_false_iff_eq.mpr c51
                        clear c51
                        have H' := Aside0.mk H
                        clear H
                        have hnb52 := NB147_143.out
                        have hnc52 := NB143_147.out
                        have hnb53 := NB147_145.out
                        have hnc53 := NB145_147.out
                        have hcz54_0 : wc.cell? ⟨gb147, 0, none⟩ = some (.int .i64 ((rd_T24 l1 a3).f0)) := (blk_cell BK147.out 0).trans rfl
                        have hcz54_1 : wc.cell? ⟨gb147, 1, none⟩ = some (.int .i64 ((rd_T24 l1 a3).f1)) := (blk_cell BK147.out 1).trans rfl
                        have hcz54_2 : wc.cell? ⟨gb147, 2, none⟩ = some (.int .u8 ((rd_T24 l1 a3).f2)) := (blk_cell BK147.out 2).trans rfl
                        have hcz54_3 : wc.cell? ⟨gb147, 3, none⟩ = some (.int .i64 ((rd_T24 l1 a3).f3)) := (blk_cell BK147.out 3).trans rfl
                        have hcz54_4 : wc.cell? ⟨gb147, 4, none⟩ = some (.int .i64 ((rd_T24 l1 a3).f4)) := (blk_cell BK147.out 4).trans rfl
                        have hcz54_5 : wc.cell? ⟨gb147, 5, none⟩ = some (.int .i64 ((rd_T24 l1 a3).f5)) := (blk_cell BK147.out 5).trans rfl
                        have hfz54_0 := blk_frozen BK147.out 0
                        have hfz54_1 := blk_frozen BK147.out 1
                        have hfz54_2 := blk_frozen BK147.out 2
                        have hfz54_3 := blk_frozen BK147.out 3
                        have hfz54_4 := blk_frozen BK147.out 4
                        have hfz54_5 := blk_frozen BK147.out 5
                        go_wp2
                        go_meet
                        case rel => exact ⟨_, ((((rd_T24 l1 a3).f5) == 2)), (by first | rfl | (simp; done) | (simp [*]; done)), H', ⟨by have := HJ4.out; have := HJ13.out; first | omega | exact Nat.le_refl _⟩, ⟨by (with_reducible repeat (first | refine blk_drewN ?_ _ | refine blk_drew ?_ | refine blk_alloc ?_ _)); exact BK143.out⟩, ⟨by (with_reducible repeat (first | refine blk_drewN ?_ _ | refine blk_drew ?_ | refine blk_alloc ?_ _)); exact BK145.out⟩, ⟨by (with_reducible repeat (first | refine blk_drewN ?_ _ | refine blk_drew ?_ | refine blk_alloc ?_ _)); exact BK147.out⟩, ⟨by repeat (first | (with_reducible first | exact HB.out | apply below_alloc | apply pw_below_drewN | apply below_drew1 | refine below_set ?_ GE143.out | refine below_set ?_ GE145.out | refine below_set ?_ GE147.out) | exact HB.out)⟩⟩
                      · rw [if_neg c51] at H
                        have c51b0 : (((rd_T24 l1 a3).f2) == 22) = false := beq_eq_false_iff_ne.mpr c51
                        have c51b1 : (((rd_T24 l1 a3).f2) != 22) = true := bne_iff_ne.mpr c51
                        have H' := Aside0.mk H
                        clear H
                        have hnb55 := NB147_143.out
                        have hnc55 := NB143_147.out
                        have hnb56 := NB147_145.out
                        have hnc56 := NB145_147.out
                        have hcz57_0 : wc.cell? ⟨gb147, 0, none⟩ = some (.int .i64 ((rd_T24 l1 a3).f0)) := (blk_cell BK147.out 0).trans rfl
                        have hcz57_1 : wc.cell? ⟨gb147, 1, none⟩ = some (.int .i64 ((rd_T24 l1 a3).f1)) := (blk_cell BK147.out 1).trans rfl
                        have hcz57_2 : wc.cell? ⟨gb147, 2, none⟩ = some (.int .u8 ((rd_T24 l1 a3).f2)) := (blk_cell BK147.out 2).trans rfl
                        have hcz57_3 : wc.cell? ⟨gb147, 3, none⟩ = some (.int .i64 ((rd_T24 l1 a3).f3)) := (blk_cell BK147.out 3).trans rfl
                        have hcz57_4 : wc.cell? ⟨gb147, 4, none⟩ = some (.int .i64 ((rd_T24 l1 a3).f4)) := (blk_cell BK147.out 4).trans rfl
                        have hcz57_5 : wc.cell? ⟨gb147, 5, none⟩ = some (.int .i64 ((rd_T24 l1 a3).f5)) := (blk_cell BK147.out 5).trans rfl
                        have hfz57_0 := blk_frozen BK147.out 0
                        have hfz57_1 := blk_frozen BK147.out 1
                        have hfz57_2 := blk_frozen BK147.out 2
                        have hfz57_3 := blk_frozen BK147.out 3
                        have hfz57_4 := blk_frozen BK147.out 4
                        have hfz57_5 := blk_frozen BK147.out 5
                        go_wp2
                        go_meet
                        case rel => exact ⟨_, (false), (by first | rfl | (simp; done) | (simp [*]; done)), H', ⟨by have := HJ4.out; have := HJ13.out; first | omega | exact Nat.le_refl _⟩, ⟨by (with_reducible repeat (first | refine blk_drewN ?_ _ | refine blk_drew ?_ | refine blk_alloc ?_ _)); exact BK143.out⟩, ⟨by (with_reducible repeat (first | refine blk_drewN ?_ _ | refine blk_drew ?_ | refine blk_alloc ?_ _)); exact BK145.out⟩, ⟨by (with_reducible repeat (first | refine blk_drewN ?_ _ | refine blk_drew ?_ | refine blk_alloc ?_ _)); exact BK147.out⟩, ⟨by repeat (first | (with_reducible first | exact HB.out | apply below_alloc | apply pw_below_drewN | apply below_drew1 | refine below_set ?_ GE143.out | refine below_set ?_ GE145.out | refine below_set ?_ GE147.out) | exact HB.out)⟩⟩
                   case rest =>
                    clear HC41
                    try clear c1
                    try clear p1
                    try clear q1
                    try clear hx1
                    try clear c2
                    try clear p2
                    try clear c3
                    try clear c4
                    try clear c5
                    try clear c7
                    try clear c7b0
                    try clear c8
                    try clear c8b0
                    try clear c9
                    try clear c10
                    try clear c10b0
                    try clear c11
                    try clear c11b0
                    try clear c12
                    try clear c12b0
                    try clear c13
                    try clear c13b0
                    try clear p14
                    try clear q14
                    try clear hx14
                    try clear c16
                    try clear c19
                    try clear c20
                    try clear c22
                    try clear c22b0
                    try clear c22b1
                    try clear c23
                    try clear c24
                    try clear c26
                    try clear c28
                    try clear c28b0
                    try clear c28b1
                    try clear c29
                    try clear c30
                    try clear c32
                    try clear c34
                    try clear c35
                    try clear c37
                    try clear c39
                    try clear c40
                    try clear c40b0
                    try clear c40b1
                    try clear c42
                    try clear c43
                    try clear c45
                    try clear c47
                    try clear c47b0
                    try clear c47b1
                    try clear c48
                    try clear c49
                    try clear c51
                    try clear c51b0
                    try clear c51b1
                    try clear c52
                    try clear c53
                    try clear c55
                    try clear c56
                    try clear hcz17_0
                    try clear hcz17_1
                    try clear hcz17_2
                    try clear hcz17_3
                    try clear hcz17_4
                    try clear hcz17_5
                    try clear hcz21_0
                    try clear hcz21_1
                    try clear hcz21_2
                    try clear hcz21_3
                    try clear hcz21_4
                    try clear hcz21_5
                    try clear hcz25_0
                    try clear hcz25_1
                    try clear hcz25_2
                    try clear hcz25_3
                    try clear hcz25_4
                    try clear hcz25_5
                    try clear hcz27_0
                    try clear hcz27_1
                    try clear hcz27_2
                    try clear hcz27_3
                    try clear hcz27_4
                    try clear hcz27_5
                    try clear hcz31_0
                    try clear hcz31_1
                    try clear hcz31_2
                    try clear hcz31_3
                    try clear hcz31_4
                    try clear hcz31_5
                    try clear hcz33_0
                    try clear hcz33_1
                    try clear hcz33_2
                    try clear hcz33_3
                    try clear hcz33_4
                    try clear hcz33_5
                    try clear hcz36_0
                    try clear hcz36_1
                    try clear hcz36_2
                    try clear hcz36_3
                    try clear hcz36_4
                    try clear hcz36_5
                    try clear hcz38_0
                    try clear hcz38_1
                    try clear hcz38_2
                    try clear hcz38_3
                    try clear hcz38_4
                    try clear hcz38_5
                    try clear hcz44_0
                    try clear hcz44_1
                    try clear hcz44_2
                    try clear hcz44_3
                    try clear hcz44_4
                    try clear hcz44_5
                    try clear hcz46_0
                    try clear hcz46_1
                    try clear hcz46_2
                    try clear hcz46_3
                    try clear hcz46_4
                    try clear hcz46_5
                    try clear hcz50_0
                    try clear hcz50_1
                    try clear hcz50_2
                    try clear hcz50_3
                    try clear hcz50_4
                    try clear hcz50_5
                    try clear hcz54_0
                    try clear hcz54_1
                    try clear hcz54_2
                    try clear hcz54_3
                    try clear hcz54_4
                    try clear hcz54_5
                    try clear hcz57_0
                    try clear hcz57_1
                    try clear hcz57_2
                    try clear hcz57_3
                    try clear hcz57_4
                    try clear hcz57_5
                    try clear hfz17_0
                    try clear hfz17_1
                    try clear hfz17_2
                    try clear hfz17_3
                    try clear hfz17_4
                    try clear hfz17_5
                    try clear hfz21_0
                    try clear hfz21_1
                    try clear hfz21_2
                    try clear hfz21_3
                    try clear hfz21_4
                    try clear hfz21_5
                    try clear hfz25_0
                    try clear hfz25_1
                    try clear hfz25_2
                    try clear hfz25_3
                    try clear hfz25_4
                    try clear hfz25_5
                    try clear hfz27_0
                    try clear hfz27_1
                    try clear hfz27_2
                    try clear hfz27_3
                    try clear hfz27_4
                    try clear hfz27_5
                    try clear hfz31_0
                    try clear hfz31_1
                    try clear hfz31_2
                    try clear hfz31_3
                    try clear hfz31_4
                    try clear hfz31_5
                    try clear hfz33_0
                    try clear hfz33_1
                    try clear hfz33_2
                    try clear hfz33_3
                    try clear hfz33_4
                    try clear hfz33_5
                    try clear hfz36_0
                    try clear hfz36_1
                    try clear hfz36_2
                    try clear hfz36_3
                    try clear hfz36_4
                    try clear hfz36_5
                    try clear hfz38_0
                    try clear hfz38_1
                    try clear hfz38_2
                    try clear hfz38_3
                    try clear hfz38_4
                    try clear hfz38_5
                    try clear hfz44_0
                    try clear hfz44_1
                    try clear hfz44_2
                    try clear hfz44_3
                    try clear hfz44_4
                    try clear hfz44_5
                    try clear hfz46_0
                    try clear hfz46_1
                    try clear hfz46_2
                    try clear hfz46_3
                    try clear hfz46_4
                    try clear hfz46_5
                    try clear hfz50_0
                    try clear hfz50_1
                    try clear hfz50_2
                    try clear hfz50_3
                    try clear hfz50_4
                    try clear hfz50_5
                    try clear hfz54_0
                    try clear hfz54_1
                    try clear hfz54_2
                    try clear hfz54_3
                    try clear hfz54_4
                    try clear hfz54_5
                    try clear hfz57_0
                    try clear hfz57_1
                    try clear hfz57_2
                    try clear hfz57_3
                    try clear hfz57_4
                    try clear hfz57_5
                    try clear hx144_0
                    try clear hx144_1
                    try clear hx144_2
                    try clear hx144_3
                    try clear hx144_4
                    try clear hx144_5
                    try clear hx146_0
                    try clear hx146_1
                    try clear hx146_2
                    try clear hx146_3
                    try clear hx146_4
                    try clear hx146_5
                    try clear p1
                    try clear p14
                    try clear p144
                    try clear p146
                    try clear p2
                    try clear q1
                    try clear q14
                    try clear q144
                    try clear q146
                    obtain ⟨kq, x11_40, rfl, HA, HJ40, BK143, BK145, BK147, HB⟩ := hcut
                    cases kq with
                    | zero => exact absurd HA.out (by simp [interlockref07_Direct.j2])
                    | succ kj40 =>
                     have H := HA.out
                     clear HA
                     simp only [interlockref07_Direct.j2] at H
                     by_cases c58 : ((rd_T24 l1 a2).f2) = 14
                     · rw [if_pos c58] at H
                       have c58b0 : (((rd_T24 l1 a2).f2) == 14) = true := beq_iff_eq.mpr c58
                       have c58b1 : (((rd_T24 l1 a2).f2) != 14) = false := bne_eq_false_iff_eq.mpr c58
                       clear c58
                       by_cases c59 : ((rd_T24 l1 a3).f2) = 13
                       · rw [if_pos c59] at H
                         have c59b0 : (((rd_T24 l1 a3).f2) == 13) = true := beq_iff_eq.mpr c59
                         have c59b1 : (((rd_T24 l1 a3).f2) != 13) = false := bne_eq_false_iff_eq.mpr c59
                         clear c59
                         obtain rfl := Option.some.inj H
                         have hnb60 := NB145_143.out
                         have hnc60 := NB143_145.out
                         have hnb61 := NB145_147.out
                         have hnc61 := NB147_145.out
                         have hcz62_0 : wc.cell? ⟨gb145, 0, none⟩ = some (.int .i64 ((rd_T24 l1 a2).f0)) := (blk_cell BK145.out 0).trans rfl
                         have hcz62_1 : wc.cell? ⟨gb145, 1, none⟩ = some (.int .i64 ((rd_T24 l1 a2).f1)) := (blk_cell BK145.out 1).trans rfl
                         have hcz62_2 : wc.cell? ⟨gb145, 2, none⟩ = some (.int .u8 ((rd_T24 l1 a2).f2)) := (blk_cell BK145.out 2).trans rfl
                         have hcz62_3 : wc.cell? ⟨gb145, 3, none⟩ = some (.int .i64 ((rd_T24 l1 a2).f3)) := (blk_cell BK145.out 3).trans rfl
                         have hcz62_4 : wc.cell? ⟨gb145, 4, none⟩ = some (.int .i64 ((rd_T24 l1 a2).f4)) := (blk_cell BK145.out 4).trans rfl
                         have hcz62_5 : wc.cell? ⟨gb145, 5, none⟩ = some (.int .i64 ((rd_T24 l1 a2).f5)) := (blk_cell BK145.out 5).trans rfl
                         have hfz62_0 := blk_frozen BK145.out 0
                         have hfz62_1 := blk_frozen BK145.out 1
                         have hfz62_2 := blk_frozen BK145.out 2
                         have hfz62_3 := blk_frozen BK145.out 3
                         have hfz62_4 := blk_frozen BK145.out 4
                         have hfz62_5 := blk_frozen BK145.out 5
                         have hnb63 := NB147_143.out
                         have hnc63 := NB143_147.out
                         have hcz64_0 : wc.cell? ⟨gb147, 0, none⟩ = some (.int .i64 ((rd_T24 l1 a3).f0)) := (blk_cell BK147.out 0).trans rfl
                         have hcz64_1 : wc.cell? ⟨gb147, 1, none⟩ = some (.int .i64 ((rd_T24 l1 a3).f1)) := (blk_cell BK147.out 1).trans rfl
                         have hcz64_2 : wc.cell? ⟨gb147, 2, none⟩ = some (.int .u8 ((rd_T24 l1 a3).f2)) := (blk_cell BK147.out 2).trans rfl
                         have hcz64_3 : wc.cell? ⟨gb147, 3, none⟩ = some (.int .i64 ((rd_T24 l1 a3).f3)) := (blk_cell BK147.out 3).trans rfl
                         have hcz64_4 : wc.cell? ⟨gb147, 4, none⟩ = some (.int .i64 ((rd_T24 l1 a3).f4)) := (blk_cell BK147.out 4).trans rfl
                         have hcz64_5 : wc.cell? ⟨gb147, 5, none⟩ = some (.int .i64 ((rd_T24 l1 a3).f5)) := (blk_cell BK147.out 5).trans rfl
                         have hfz64_0 := blk_frozen BK147.out 0
                         have hfz64_1 := blk_frozen BK147.out 1
                         have hfz64_2 := blk_frozen BK147.out 2
                         have hfz64_3 := blk_frozen BK147.out 3
                         have hfz64_4 := blk_frozen BK147.out 4
                         have hfz64_5 := blk_frozen BK147.out 5
                         go_wp2
                         go_ret
                         exact ⟨by first | rfl | (simp [errW_none, errW_some] <;> rfl) | (simp [*, errW_none, errW_some] <;> rfl), by repeat (first | (with_reducible first | exact HB.out | apply below_alloc | apply pw_below_drewN | apply below_drew1 | refine below_set ?_ GE143.out | refine below_set ?_ GE145.out | refine below_set ?_ GE147.out) | exact HB.out)⟩
                       · rw [if_neg c59] at H
                         have c59b0 : (((rd_T24 l1 a3).f2) == 13) = false := beq_eq_false_iff_ne.mpr c59
                         have c59b1 : (((rd_T24 l1 a3).f2) != 13) = true := bne_iff_ne.mpr c59
                         obtain rfl := Option.some.inj H
                         have hnb65 := NB145_143.out
                         have hnc65 := NB143_145.out
                         have hnb66 := NB145_147.out
                         have hnc66 := NB147_145.out
                         have hcz67_0 : wc.cell? ⟨gb145, 0, none⟩ = some (.int .i64 ((rd_T24 l1 a2).f0)) := (blk_cell BK145.out 0).trans rfl
                         have hcz67_1 : wc.cell? ⟨gb145, 1, none⟩ = some (.int .i64 ((rd_T24 l1 a2).f1)) := (blk_cell BK145.out 1).trans rfl
                         have hcz67_2 : wc.cell? ⟨gb145, 2, none⟩ = some (.int .u8 ((rd_T24 l1 a2).f2)) := (blk_cell BK145.out 2).trans rfl
                         have hcz67_3 : wc.cell? ⟨gb145, 3, none⟩ = some (.int .i64 ((rd_T24 l1 a2).f3)) := (blk_cell BK145.out 3).trans rfl
                         have hcz67_4 : wc.cell? ⟨gb145, 4, none⟩ = some (.int .i64 ((rd_T24 l1 a2).f4)) := (blk_cell BK145.out 4).trans rfl
                         have hcz67_5 : wc.cell? ⟨gb145, 5, none⟩ = some (.int .i64 ((rd_T24 l1 a2).f5)) := (blk_cell BK145.out 5).trans rfl
                         have hfz67_0 := blk_frozen BK145.out 0
                         have hfz67_1 := blk_frozen BK145.out 1
                         have hfz67_2 := blk_frozen BK145.out 2
                         have hfz67_3 := blk_frozen BK145.out 3
                         have hfz67_4 := blk_frozen BK145.out 4
                         have hfz67_5 := blk_frozen BK145.out 5
                         have hnb68 := NB147_143.out
                         have hnc68 := NB143_147.out
                         have hcz69_0 : wc.cell? ⟨gb147, 0, none⟩ = some (.int .i64 ((rd_T24 l1 a3).f0)) := (blk_cell BK147.out 0).trans rfl
                         have hcz69_1 : wc.cell? ⟨gb147, 1, none⟩ = some (.int .i64 ((rd_T24 l1 a3).f1)) := (blk_cell BK147.out 1).trans rfl
                         have hcz69_2 : wc.cell? ⟨gb147, 2, none⟩ = some (.int .u8 ((rd_T24 l1 a3).f2)) := (blk_cell BK147.out 2).trans rfl
                         have hcz69_3 : wc.cell? ⟨gb147, 3, none⟩ = some (.int .i64 ((rd_T24 l1 a3).f3)) := (blk_cell BK147.out 3).trans rfl
                         have hcz69_4 : wc.cell? ⟨gb147, 4, none⟩ = some (.int .i64 ((rd_T24 l1 a3).f4)) := (blk_cell BK147.out 4).trans rfl
                         have hcz69_5 : wc.cell? ⟨gb147, 5, none⟩ = some (.int .i64 ((rd_T24 l1 a3).f5)) := (blk_cell BK147.out 5).trans rfl
                         have hfz69_0 := blk_frozen BK147.out 0
                         have hfz69_1 := blk_frozen BK147.out 1
                         have hfz69_2 := blk_frozen BK147.out 2
                         have hfz69_3 := blk_frozen BK147.out 3
                         have hfz69_4 := blk_frozen BK147.out 4
                         have hfz69_5 := blk_frozen BK147.out 5
                         go_wp2
                         go_ret
                         exact ⟨by first | rfl | (simp [errW_none, errW_some] <;> rfl) | (simp [*, errW_none, errW_some] <;> rfl), by repeat (first | (with_reducible first | exact HB.out | apply below_alloc | apply pw_below_drewN | apply below_drew1 | refine below_set ?_ GE143.out | refine below_set ?_ GE145.out | refine below_set ?_ GE147.out) | exact HB.out)⟩
                     · rw [if_neg c58] at H
                       have c58b0 : (((rd_T24 l1 a2).f2) == 14) = false := beq_eq_false_iff_ne.mpr c58
                       have c58b1 : (((rd_T24 l1 a2).f2) != 14) = true := bne_iff_ne.mpr c58
                       by_cases c70 : ((rd_T24 l1 a2).f2) = 16
                       · rw [if_pos c70] at H
                         have c70b0 : (((rd_T24 l1 a2).f2) == 16) = true := beq_iff_eq.mpr c70
                         have c70b1 : (((rd_T24 l1 a2).f2) != 16) = false := bne_eq_false_iff_eq.mpr c70
                         clear c70
                         obtain rfl := Option.some.inj H
                         have hnb71 := NB145_143.out
                         have hnc71 := NB143_145.out
                         have hnb72 := NB145_147.out
                         have hnc72 := NB147_145.out
                         have hcz73_0 : wc.cell? ⟨gb145, 0, none⟩ = some (.int .i64 ((rd_T24 l1 a2).f0)) := (blk_cell BK145.out 0).trans rfl
                         have hcz73_1 : wc.cell? ⟨gb145, 1, none⟩ = some (.int .i64 ((rd_T24 l1 a2).f1)) := (blk_cell BK145.out 1).trans rfl
                         have hcz73_2 : wc.cell? ⟨gb145, 2, none⟩ = some (.int .u8 ((rd_T24 l1 a2).f2)) := (blk_cell BK145.out 2).trans rfl
                         have hcz73_3 : wc.cell? ⟨gb145, 3, none⟩ = some (.int .i64 ((rd_T24 l1 a2).f3)) := (blk_cell BK145.out 3).trans rfl
                         have hcz73_4 : wc.cell? ⟨gb145, 4, none⟩ = some (.int .i64 ((rd_T24 l1 a2).f4)) := (blk_cell BK145.out 4).trans rfl
                         have hcz73_5 : wc.cell? ⟨gb145, 5, none⟩ = some (.int .i64 ((rd_T24 l1 a2).f5)) := (blk_cell BK145.out 5).trans rfl
                         have hfz73_0 := blk_frozen BK145.out 0
                         have hfz73_1 := blk_frozen BK145.out 1
                         have hfz73_2 := blk_frozen BK145.out 2
                         have hfz73_3 := blk_frozen BK145.out 3
                         have hfz73_4 := blk_frozen BK145.out 4
                         have hfz73_5 := blk_frozen BK145.out 5
                         have hnb74 := NB147_143.out
                         have hnc74 := NB143_147.out
                         have hcz75_0 : wc.cell? ⟨gb147, 0, none⟩ = some (.int .i64 ((rd_T24 l1 a3).f0)) := (blk_cell BK147.out 0).trans rfl
                         have hcz75_1 : wc.cell? ⟨gb147, 1, none⟩ = some (.int .i64 ((rd_T24 l1 a3).f1)) := (blk_cell BK147.out 1).trans rfl
                         have hcz75_2 : wc.cell? ⟨gb147, 2, none⟩ = some (.int .u8 ((rd_T24 l1 a3).f2)) := (blk_cell BK147.out 2).trans rfl
                         have hcz75_3 : wc.cell? ⟨gb147, 3, none⟩ = some (.int .i64 ((rd_T24 l1 a3).f3)) := (blk_cell BK147.out 3).trans rfl
                         have hcz75_4 : wc.cell? ⟨gb147, 4, none⟩ = some (.int .i64 ((rd_T24 l1 a3).f4)) := (blk_cell BK147.out 4).trans rfl
                         have hcz75_5 : wc.cell? ⟨gb147, 5, none⟩ = some (.int .i64 ((rd_T24 l1 a3).f5)) := (blk_cell BK147.out 5).trans rfl
                         have hfz75_0 := blk_frozen BK147.out 0
                         have hfz75_1 := blk_frozen BK147.out 1
                         have hfz75_2 := blk_frozen BK147.out 2
                         have hfz75_3 := blk_frozen BK147.out 3
                         have hfz75_4 := blk_frozen BK147.out 4
                         have hfz75_5 := blk_frozen BK147.out 5
                         go_wp2
                         go_ret
                         exact ⟨by first | rfl | (simp [errW_none, errW_some] <;> rfl) | (simp [*, errW_none, errW_some] <;> rfl), by repeat (first | (with_reducible first | exact HB.out | apply below_alloc | apply pw_below_drewN | apply below_drew1 | refine below_set ?_ GE143.out | refine below_set ?_ GE145.out | refine below_set ?_ GE147.out) | exact HB.out)⟩
                       · rw [if_neg c70] at H
                         have c70b0 : (((rd_T24 l1 a2).f2) == 16) = false := beq_eq_false_iff_ne.mpr c70
                         have c70b1 : (((rd_T24 l1 a2).f2) != 16) = true := bne_iff_ne.mpr c70
                         have HC76 := Aside0.mk H
                         clear H
                         have hnb77 := NB145_143.out
                         have hnc77 := NB143_145.out
                         have hnb78 := NB145_147.out
                         have hnc78 := NB147_145.out
                         have hcz79_0 : wc.cell? ⟨gb145, 0, none⟩ = some (.int .i64 ((rd_T24 l1 a2).f0)) := (blk_cell BK145.out 0).trans rfl
                         have hcz79_1 : wc.cell? ⟨gb145, 1, none⟩ = some (.int .i64 ((rd_T24 l1 a2).f1)) := (blk_cell BK145.out 1).trans rfl
                         have hcz79_2 : wc.cell? ⟨gb145, 2, none⟩ = some (.int .u8 ((rd_T24 l1 a2).f2)) := (blk_cell BK145.out 2).trans rfl
                         have hcz79_3 : wc.cell? ⟨gb145, 3, none⟩ = some (.int .i64 ((rd_T24 l1 a2).f3)) := (blk_cell BK145.out 3).trans rfl
                         have hcz79_4 : wc.cell? ⟨gb145, 4, none⟩ = some (.int .i64 ((rd_T24 l1 a2).f4)) := (blk_cell BK145.out 4).trans rfl
                         have hcz79_5 : wc.cell? ⟨gb145, 5, none⟩ = some (.int .i64 ((rd_T24 l1 a2).f5)) := (blk_cell BK145.out 5).trans rfl
                         have hfz79_0 := blk_frozen BK145.out 0
                         have hfz79_1 := blk_frozen BK145.out 1
                         have hfz79_2 := blk_frozen BK145.out 2
                         have hfz79_3 := blk_frozen BK145.out 3
                         have hfz79_4 := blk_frozen BK145.out 4
                         have hfz79_5 := blk_frozen BK145.out 5
                         go_upto_if 85 with (fail)
                         go_cut [85] (fun v85 wc => ∃ (kq : Nat) (x85_75 : Bool), v85 = .bool x85_75 ∧ Aside0 (interlockref07_Direct.j3 kq l1 a2 a3 x11_40 ((rd_T24 l1 a2).f2) x85_75 a0_0 a0_1 a0_2 l0_3 a0_4 a0_5 l0_6 ((rd_T24 l1 a2).f0) ((rd_T24 l1 a2).f1) ((rd_T24 l1 a2).f2) ((rd_T24 l1 a2).f3) ((rd_T24 l1 a2).f4) ((rd_T24 l1 a2).f5) ((rd_T24 l1 a3).f0) ((rd_T24 l1 a3).f1) ((rd_T24 l1 a3).f2) ((rd_T24 l1 a3).f3) ((rd_T24 l1 a3).f4) ((rd_T24 l1 a3).f5) = some r) ∧ Aside0 (kq ≤ kj40) ∧ Aside0 (wc.heap[gb143]? = some (.cells #[.int .i64 a0_0, .int .i64 a0_1, .int .i64 a0_2, (.slice A0_3 l0_3.length c0_3), .int .i64 a0_4, .int .i64 a0_5, (.slice A0_6 l0_6.length c0_6)] 30 (0, 0))) ∧ Aside0 (wc.heap[gb145]? = some (.cells #[.int .i64 ((rd_T24 l1 a2).f0), .int .i64 ((rd_T24 l1 a2).f1), .int .u8 ((rd_T24 l1 a2).f2), .int .i64 ((rd_T24 l1 a2).f3), .int .i64 ((rd_T24 l1 a2).f4), .int .i64 ((rd_T24 l1 a2).f5)] 24 (0, 0))) ∧ Aside0 (wc.heap[gb147]? = some (.cells #[.int .i64 ((rd_T24 l1 a3).f0), .int .i64 ((rd_T24 l1 a3).f1), .int .u8 ((rd_T24 l1 a3).f2), .int .i64 ((rd_T24 l1 a3).f3), .int .i64 ((rd_T24 l1 a3).f4), .int .i64 ((rd_T24 l1 a3).f5)] 24 (0, 0))) ∧ Aside0 (Below w.heap.size w wc))
                         case first =>
                          have H := HC76.out
                          clear HC76
                          by_cases c80 : ((rd_T24 l1 a2).f2) = 18
                          · rw [if_pos c80] at H
                            have c80b0 : (((rd_T24 l1 a2).f2) == 18) = true := beq_iff_eq.mpr c80
                            have c80b1 : (((rd_T24 l1 a2).f2) != 18) = false := bne_eq_false_iff_eq.mpr c80
                            clear c80
                            (first | rw [c80b0] | (simp only [i64_w, i32_w]; rw [c80b0]) | skip)
                            have H' := Aside0.mk H
                            clear H
                            go_wp2
                            go_meet
                            case rel => exact ⟨_, ((((rd_T24 l1 a2).f2) == 18)), (by first | rfl | (simp; done) | (simp [*]; done)), H', ⟨by have := HJ4.out; have := HJ13.out; have := HJ40.out; first | omega | exact Nat.le_refl _⟩, ⟨by (with_reducible repeat (first | refine blk_drewN ?_ _ | refine blk_drew ?_ | refine blk_alloc ?_ _)); exact BK143.out⟩, ⟨by (with_reducible repeat (first | refine blk_drewN ?_ _ | refine blk_drew ?_ | refine blk_alloc ?_ _)); exact BK145.out⟩, ⟨by (with_reducible repeat (first | refine blk_drewN ?_ _ | refine blk_drew ?_ | refine blk_alloc ?_ _)); exact BK147.out⟩, ⟨by repeat (first | (with_reducible first | exact HB.out | apply below_alloc | apply pw_below_drewN | apply below_drew1 | refine below_set ?_ GE143.out | refine below_set ?_ GE145.out | refine below_set ?_ GE147.out) | exact HB.out)⟩⟩
                          · rw [if_neg c80] at H
                            have c80b0 : (((rd_T24 l1 a2).f2) == 18) = false := beq_eq_false_iff_ne.mpr c80
                            have c80b1 : (((rd_T24 l1 a2).f2) != 18) = true := bne_iff_ne.mpr c80
                            (first | rw [c80b0] | (simp only [i64_w, i32_w]; rw [c80b0]) | skip)
                            have H' := Aside0.mk H
                            clear H
                            go_wp2
                            go_meet
                            case rel => exact ⟨_, ((((rd_T24 l1 a2).f2) == 19)), (by first | rfl | (simp; done) | (simp [*]; done)), H', ⟨by have := HJ4.out; have := HJ13.out; have := HJ40.out; first | omega | exact Nat.le_refl _⟩, ⟨by (with_reducible repeat (first | refine blk_drewN ?_ _ | refine blk_drew ?_ | refine blk_alloc ?_ _)); exact BK143.out⟩, ⟨by (with_reducible repeat (first | refine blk_drewN ?_ _ | refine blk_drew ?_ | refine blk_alloc ?_ _)); exact BK145.out⟩, ⟨by (with_reducible repeat (first | refine blk_drewN ?_ _ | refine blk_drew ?_ | refine blk_alloc ?_ _)); exact BK147.out⟩, ⟨by repeat (first | (with_reducible first | exact HB.out | apply below_alloc | apply pw_below_drewN | apply below_drew1 | refine below_set ?_ GE143.out | refine below_set ?_ GE145.out | refine below_set ?_ GE147.out) | exact HB.out)⟩⟩
                         case rest =>
                          clear HC76
                          try clear c1
                          try clear p1
                          try clear q1
                          try clear hx1
                          try clear c2
                          try clear p2
                          try clear c3
                          try clear c4
                          try clear c5
                          try clear c6
                          try clear c7
                          try clear c7b0
                          try clear c8
                          try clear c8b0
                          try clear c9
                          try clear c10
                          try clear c10b0
                          try clear c11
                          try clear c11b0
                          try clear c12
                          try clear c12b0
                          try clear c13
                          try clear c13b0
                          try clear p14
                          try clear q14
                          try clear hx14
                          try clear c16
                          try clear c19
                          try clear c20
                          try clear c22
                          try clear c22b0
                          try clear c22b1
                          try clear c23
                          try clear c24
                          try clear c26
                          try clear c28
                          try clear c28b0
                          try clear c28b1
                          try clear c29
                          try clear c30
                          try clear c32
                          try clear c34
                          try clear c35
                          try clear c37
                          try clear c39
                          try clear c40
                          try clear c40b0
                          try clear c40b1
                          try clear c42
                          try clear c43
                          try clear c45
                          try clear c47
                          try clear c47b0
                          try clear c47b1
                          try clear c48
                          try clear c49
                          try clear c51
                          try clear c51b0
                          try clear c51b1
                          try clear c52
                          try clear c53
                          try clear c55
                          try clear c56
                          try clear c58
                          try clear c58b0
                          try clear c58b1
                          try clear c59
                          try clear c59b0
                          try clear c59b1
                          try clear c60
                          try clear c61
                          try clear c63
                          try clear c65
                          try clear c66
                          try clear c68
                          try clear c70
                          try clear c70b0
                          try clear c70b1
                          try clear c71
                          try clear c72
                          try clear c74
                          try clear c77
                          try clear c78
                          try clear c80
                          try clear c80b0
                          try clear c80b1
                          try clear hcz17_0
                          try clear hcz17_1
                          try clear hcz17_2
                          try clear hcz17_3
                          try clear hcz17_4
                          try clear hcz17_5
                          try clear hcz21_0
                          try clear hcz21_1
                          try clear hcz21_2
                          try clear hcz21_3
                          try clear hcz21_4
                          try clear hcz21_5
                          try clear hcz25_0
                          try clear hcz25_1
                          try clear hcz25_2
                          try clear hcz25_3
                          try clear hcz25_4
                          try clear hcz25_5
                          try clear hcz27_0
                          try clear hcz27_1
                          try clear hcz27_2
                          try clear hcz27_3
                          try clear hcz27_4
                          try clear hcz27_5
                          try clear hcz31_0
                          try clear hcz31_1
                          try clear hcz31_2
                          try clear hcz31_3
                          try clear hcz31_4
                          try clear hcz31_5
                          try clear hcz33_0
                          try clear hcz33_1
                          try clear hcz33_2
                          try clear hcz33_3
                          try clear hcz33_4
                          try clear hcz33_5
                          try clear hcz36_0
                          try clear hcz36_1
                          try clear hcz36_2
                          try clear hcz36_3
                          try clear hcz36_4
                          try clear hcz36_5
                          try clear hcz38_0
                          try clear hcz38_1
                          try clear hcz38_2
                          try clear hcz38_3
                          try clear hcz38_4
                          try clear hcz38_5
                          try clear hcz44_0
                          try clear hcz44_1
                          try clear hcz44_2
                          try clear hcz44_3
                          try clear hcz44_4
                          try clear hcz44_5
                          try clear hcz46_0
                          try clear hcz46_1
                          try clear hcz46_2
                          try clear hcz46_3
                          try clear hcz46_4
                          try clear hcz46_5
                          try clear hcz50_0
                          try clear hcz50_1
                          try clear hcz50_2
                          try clear hcz50_3
                          try clear hcz50_4
                          try clear hcz50_5
                          try clear hcz54_0
                          try clear hcz54_1
                          try clear hcz54_2
                          try clear hcz54_3
                          try clear hcz54_4
                          try clear hcz54_5
                          try clear hcz57_0
                          try clear hcz57_1
                          try clear hcz57_2
                          try clear hcz57_3
                          try clear hcz57_4
                          try clear hcz57_5
                          try clear hcz62_0
                          try clear hcz62_1
                          try clear hcz62_2
                          try clear hcz62_3
                          try clear hcz62_4
                          try clear hcz62_5
                          try clear hcz64_0
                          try clear hcz64_1
                          try clear hcz64_2
                          try clear hcz64_3
                          try clear hcz64_4
                          try clear hcz64_5
                          try clear hcz67_0
                          try clear hcz67_1
                          try clear hcz67_2
                          try clear hcz67_3
                          try clear hcz67_4
                          try clear hcz67_5
                          try clear hcz69_0
                          try clear hcz69_1
                          try clear hcz69_2
                          try clear hcz69_3
                          try clear hcz69_4
                          try clear hcz69_5
                          try clear hcz73_0
                          try clear hcz73_1
                          try clear hcz73_2
                          try clear hcz73_3
                          try clear hcz73_4
                          try clear hcz73_5
                          try clear hcz75_0
                          try clear hcz75_1
                          try clear hcz75_2
                          try clear hcz75_3
                          try clear hcz75_4
                          try clear hcz75_5
                          try clear hcz79_0
                          try clear hcz79_1
                          try clear hcz79_2
                          try clear hcz79_3
                          try clear hcz79_4
                          try clear hcz79_5
                          try clear hfz17_0
                          try clear hfz17_1
                          try clear hfz17_2
                          try clear hfz17_3
                          try clear hfz17_4
                          try clear hfz17_5
                          try clear hfz21_0
                          try clear hfz21_1
                          try clear hfz21_2
                          try clear hfz21_3
                          try clear hfz21_4
                          try clear hfz21_5
                          try clear hfz25_0
                          try clear hfz25_1
                          try clear hfz25_2
                          try clear hfz25_3
                          try clear hfz25_4
                          try clear hfz25_5
                          try clear hfz27_0
                          try clear hfz27_1
                          try clear hfz27_2
                          try clear hfz27_3
                          try clear hfz27_4
                          try clear hfz27_5
                          try clear hfz31_0
                          try clear hfz31_1
                          try clear hfz31_2
                          try clear hfz31_3
                          try clear hfz31_4
                          try clear hfz31_5
                          try clear hfz33_0
                          try clear hfz33_1
                          try clear hfz33_2
                          try clear hfz33_3
                          try clear hfz33_4
                          try clear hfz33_5
                          try clear hfz36_0
                          try clear hfz36_1
                          try clear hfz36_2
                          try clear hfz36_3
                          try clear hfz36_4
                          try clear hfz36_5
                          try clear hfz38_0
                          try clear hfz38_1
                          try clear hfz38_2
                          try clear hfz38_3
                          try clear hfz38_4
                          try clear hfz38_5
                          try clear hfz44_0
                          try clear hfz44_1
                          try clear hfz44_2
                          try clear hfz44_3
                          try clear hfz44_4
                          try clear hfz44_5
                          try clear hfz46_0
                          try clear hfz46_1
                          try clear hfz46_2
                          try clear hfz46_3
                          try clear hfz46_4
                          try clear hfz46_5
                          try clear hfz50_0
                          try clear hfz50_1
                          try clear hfz50_2
                          try clear hfz50_3
                          try clear hfz50_4
                          try clear hfz50_5
                          try clear hfz54_0
                          try clear hfz54_1
                          try clear hfz54_2
                          try clear hfz54_3
                          try clear hfz54_4
                          try clear hfz54_5
                          try clear hfz57_0
                          try clear hfz57_1
                          try clear hfz57_2
                          try clear hfz57_3
                          try clear hfz57_4
                          try clear hfz57_5
                          try clear hfz62_0
                          try clear hfz62_1
                          try clear hfz62_2
                          try clear hfz62_3
                          try clear hfz62_4
                          try clear hfz62_5
                          try clear hfz64_0
                          try clear hfz64_1
                          try clear hfz64_2
                          try clear hfz64_3
                          try clear hfz64_4
                          try clear hfz64_5
                          try clear hfz67_0
                          try clear hfz67_1
                          try clear hfz67_2
                          try clear hfz67_3
                          try clear hfz67_4
                          try clear hfz67_5
                          try clear hfz69_0
                          try clear hfz69_1
                          try clear hfz69_2
                          try clear hfz69_3
                          try clear hfz69_4
                          try clear hfz69_5
                          try clear hfz73_0
                          try clear hfz73_1
                          try clear hfz73_2
                          try clear hfz73_3
                          try clear hfz73_4
                          try clear hfz73_5
                          try clear hfz75_0
                          try clear hfz75_1
                          try clear hfz75_2
                          try clear hfz75_3
                          try clear hfz75_4
                          try clear hfz75_5
                          try clear hfz79_0
                          try clear hfz79_1
                          try clear hfz79_2
                          try clear hfz79_3
                          try clear hfz79_4
                          try clear hfz79_5
                          try clear hx144_0
                          try clear hx144_1
                          try clear hx144_2
                          try clear hx144_3
                          try clear hx144_4
                          try clear hx144_5
                          try clear hx146_0
                          try clear hx146_1
                          try clear hx146_2
                          try clear hx146_3
                          try clear hx146_4
                          try clear hx146_5
                          try clear p1
                          try clear p14
                          try clear p144
                          try clear p146
                          try clear p2
                          try clear q1
                          try clear q14
                          try clear q144
                          try clear q146
                          obtain ⟨kq, x85_75, rfl, HA, HJ75, BK143, BK145, BK147, HB⟩ := hcut
                          cases kq with
                          | zero => exact absurd HA.out (by simp [interlockref07_Direct.j3])
                          | succ kj75 =>
                           have H := HA.out
                           clear HA
                           simp only [interlockref07_Direct.j3] at H
                           by_cases c81 : x85_75 = true
                           · subst c81
                             have H1 : (if ((rd_T24 l1 a3).f2) = 17 then ((interlockref07_writes.f kj75 l1 a2 a3).bind fun t148 => (some (!t148))) else (if ((rd_T24 l1 a3).f2) = 19 then ((interlockref07_writes.f kj75 l1 a2 a3).bind fun t149 => (some (!t149))) else (some false))) = some r := by rw [if_pos rfl] at H; exact H
                             clear H
                             have H := H1
                             clear H1
                             by_cases c82 : ((rd_T24 l1 a3).f2) = 17
                             · rw [if_pos c82] at H
                               have c82b0 : (((rd_T24 l1 a3).f2) == 17) = true := beq_iff_eq.mpr c82
                               have c82b1 : (((rd_T24 l1 a3).f2) != 17) = false := bne_eq_false_iff_eq.mpr c82
                               clear c82
                               replace H := Option.bind_eq_some_iff.mp H
                               obtain ⟨t148, A830, H⟩ := H
                               replace H : (some (!t148)) = some r := H
                               have A83 := Aside0.mk A830
                               clear A830
                               obtain rfl := Option.some.inj H
                               have hnb84 := NB147_143.out
                               have hnc84 := NB143_147.out
                               have hnb85 := NB147_145.out
                               have hnc85 := NB145_147.out
                               have hcz86_0 : wc.cell? ⟨gb147, 0, none⟩ = some (.int .i64 ((rd_T24 l1 a3).f0)) := (blk_cell BK147.out 0).trans rfl
                               have hcz86_1 : wc.cell? ⟨gb147, 1, none⟩ = some (.int .i64 ((rd_T24 l1 a3).f1)) := (blk_cell BK147.out 1).trans rfl
                               have hcz86_2 : wc.cell? ⟨gb147, 2, none⟩ = some (.int .u8 ((rd_T24 l1 a3).f2)) := (blk_cell BK147.out 2).trans rfl
                               have hcz86_3 : wc.cell? ⟨gb147, 3, none⟩ = some (.int .i64 ((rd_T24 l1 a3).f3)) := (blk_cell BK147.out 3).trans rfl
                               have hcz86_4 : wc.cell? ⟨gb147, 4, none⟩ = some (.int .i64 ((rd_T24 l1 a3).f4)) := (blk_cell BK147.out 4).trans rfl
                               have hcz86_5 : wc.cell? ⟨gb147, 5, none⟩ = some (.int .i64 ((rd_T24 l1 a3).f5)) := (blk_cell BK147.out 5).trans rfl
                               have hfz86_0 := blk_frozen BK147.out 0
                               have hfz86_1 := blk_frozen BK147.out 1
                               have hfz86_2 := blk_frozen BK147.out 2
                               have hfz86_3 := blk_frozen BK147.out 3
                               have hfz86_4 := blk_frozen BK147.out 4
                               have hfz86_5 := blk_frozen BK147.out 5
                               go_wp2_with (first | (go_at_call 33; (with_reducible refine (interlockref07_writes.calls kj75 _ _ l1 a2 a3 t148 _ ?side1 ?side2 A83.out).mono ?_); (case side1 => repeat (first | exact (Kd.C_below HR1.out HB.out) | (with_reducible refine Kd.C_alloc ?_ _) | (with_reducible refine Kd.C_drewN ?_ _) | (with_reducible refine Kd.C_drew ?_))); (case side2 => exact HC1.out); rintro e w' ⟨rfl, ⟨nd, rfl⟩⟩))
                               go_ret
                               exact ⟨by first | rfl | (simp [errW_none, errW_some] <;> rfl) | (simp [*, errW_none, errW_some] <;> rfl), by repeat (first | (with_reducible first | exact HB.out | apply below_alloc | apply pw_below_drewN | apply below_drew1 | refine below_set ?_ GE143.out | refine below_set ?_ GE145.out | refine below_set ?_ GE147.out) | exact HB.out)⟩
                             · rw [if_neg c82] at H
                               have c82b0 : (((rd_T24 l1 a3).f2) == 17) = false := beq_eq_false_iff_ne.mpr c82
                               have c82b1 : (((rd_T24 l1 a3).f2) != 17) = true := bne_iff_ne.mpr c82
                               by_cases c87 : ((rd_T24 l1 a3).f2) = 19
                               · rw [if_pos c87] at H
                                 have c87b0 : (((rd_T24 l1 a3).f2) == 19) = true := beq_iff_eq.mpr c87
                                 have c87b1 : (((rd_T24 l1 a3).f2) != 19) = false := bne_eq_false_iff_eq.mpr c87
                                 clear c87
                                 replace H := Option.bind_eq_some_iff.mp H
                                 obtain ⟨t149, A880, H⟩ := H
                                 replace H : (some (!t149)) = some r := H
                                 have A88 := Aside0.mk A880
                                 clear A880
                                 obtain rfl := Option.some.inj H
                                 have hnb89 := NB147_143.out
                                 have hnc89 := NB143_147.out
                                 have hnb90 := NB147_145.out
                                 have hnc90 := NB145_147.out
                                 have hcz91_0 : wc.cell? ⟨gb147, 0, none⟩ = some (.int .i64 ((rd_T24 l1 a3).f0)) := (blk_cell BK147.out 0).trans rfl
                                 have hcz91_1 : wc.cell? ⟨gb147, 1, none⟩ = some (.int .i64 ((rd_T24 l1 a3).f1)) := (blk_cell BK147.out 1).trans rfl
                                 have hcz91_2 : wc.cell? ⟨gb147, 2, none⟩ = some (.int .u8 ((rd_T24 l1 a3).f2)) := (blk_cell BK147.out 2).trans rfl
                                 have hcz91_3 : wc.cell? ⟨gb147, 3, none⟩ = some (.int .i64 ((rd_T24 l1 a3).f3)) := (blk_cell BK147.out 3).trans rfl
                                 have hcz91_4 : wc.cell? ⟨gb147, 4, none⟩ = some (.int .i64 ((rd_T24 l1 a3).f4)) := (blk_cell BK147.out 4).trans rfl
                                 have hcz91_5 : wc.cell? ⟨gb147, 5, none⟩ = some (.int .i64 ((rd_T24 l1 a3).f5)) := (blk_cell BK147.out 5).trans rfl
                                 have hfz91_0 := blk_frozen BK147.out 0
                                 have hfz91_1 := blk_frozen BK147.out 1
                                 have hfz91_2 := blk_frozen BK147.out 2
                                 have hfz91_3 := blk_frozen BK147.out 3
                                 have hfz91_4 := blk_frozen BK147.out 4
                                 have hfz91_5 := blk_frozen BK147.out 5
                                 go_wp2_with (first | (go_at_call 33; (with_reducible refine (interlockref07_writes.calls kj75 _ _ l1 a2 a3 t149 _ ?side1 ?side2 A88.out).mono ?_); (case side1 => repeat (first | exact (Kd.C_below HR1.out HB.out) | (with_reducible refine Kd.C_alloc ?_ _) | (with_reducible refine Kd.C_drewN ?_ _) | (with_reducible refine Kd.C_drew ?_))); (case side2 => exact HC1.out); rintro e w' ⟨rfl, ⟨nd, rfl⟩⟩))
                                 go_ret
                                 exact ⟨by first | rfl | (simp [errW_none, errW_some] <;> rfl) | (simp [*, errW_none, errW_some] <;> rfl), by repeat (first | (with_reducible first | exact HB.out | apply below_alloc | apply pw_below_drewN | apply below_drew1 | refine below_set ?_ GE143.out | refine below_set ?_ GE145.out | refine below_set ?_ GE147.out) | exact HB.out)⟩
                               · rw [if_neg c87] at H
                                 have c87b0 : (((rd_T24 l1 a3).f2) == 19) = false := beq_eq_false_iff_ne.mpr c87
                                 have c87b1 : (((rd_T24 l1 a3).f2) != 19) = true := bne_iff_ne.mpr c87
                                 obtain rfl := Option.some.inj H
                                 have hnb92 := NB147_143.out
                                 have hnc92 := NB143_147.out
                                 have hnb93 := NB147_145.out
                                 have hnc93 := NB145_147.out
                                 have hcz94_0 : wc.cell? ⟨gb147, 0, none⟩ = some (.int .i64 ((rd_T24 l1 a3).f0)) := (blk_cell BK147.out 0).trans rfl
                                 have hcz94_1 : wc.cell? ⟨gb147, 1, none⟩ = some (.int .i64 ((rd_T24 l1 a3).f1)) := (blk_cell BK147.out 1).trans rfl
                                 have hcz94_2 : wc.cell? ⟨gb147, 2, none⟩ = some (.int .u8 ((rd_T24 l1 a3).f2)) := (blk_cell BK147.out 2).trans rfl
                                 have hcz94_3 : wc.cell? ⟨gb147, 3, none⟩ = some (.int .i64 ((rd_T24 l1 a3).f3)) := (blk_cell BK147.out 3).trans rfl
                                 have hcz94_4 : wc.cell? ⟨gb147, 4, none⟩ = some (.int .i64 ((rd_T24 l1 a3).f4)) := (blk_cell BK147.out 4).trans rfl
                                 have hcz94_5 : wc.cell? ⟨gb147, 5, none⟩ = some (.int .i64 ((rd_T24 l1 a3).f5)) := (blk_cell BK147.out 5).trans rfl
                                 have hfz94_0 := blk_frozen BK147.out 0
                                 have hfz94_1 := blk_frozen BK147.out 1
                                 have hfz94_2 := blk_frozen BK147.out 2
                                 have hfz94_3 := blk_frozen BK147.out 3
                                 have hfz94_4 := blk_frozen BK147.out 4
                                 have hfz94_5 := blk_frozen BK147.out 5
                                 go_wp2
                                 go_ret
                                 exact ⟨by first | rfl | (simp [errW_none, errW_some] <;> rfl) | (simp [*, errW_none, errW_some] <;> rfl), by repeat (first | (with_reducible first | exact HB.out | apply below_alloc | apply pw_below_drewN | apply below_drew1 | refine below_set ?_ GE143.out | refine below_set ?_ GE145.out | refine below_set ?_ GE147.out) | exact HB.out)⟩
                           · replace c81 := Bool.eq_false_iff.mpr c81
                             subst c81
                             have H1 : (if ((rd_T24 l1 a2).f2) = 20 then ((interlockref07_taking.f ((rd_T24 l1 a3).f0) ((rd_T24 l1 a3).f1) ((rd_T24 l1 a3).f2) ((rd_T24 l1 a3).f3) ((rd_T24 l1 a3).f4) ((rd_T24 l1 a3).f5)).bind fun t150 => (if t150 = true then ((interlockref07_sends.f kj75 l1 ((rd_T24 l1 a2).f3) a2).bind fun t151 => ((interlockref07_takings.f kj75 l1 ((rd_T24 l1 a2).f3) a3).bind fun t152 => (some (t151 == t152)))) else (some false))) else (if ((rd_T24 l1 a2).f2) = 23 then (some x11_40) else (if ((rd_T24 l1 a2).f2) = 24 then (if ((rd_T24 l1 a2).f4) < 0 then (some (((rd_T24 l1 a3).f2) == 25)) else (some false)) else (if ((rd_T24 l1 a2).f2) = 27 then (if ((rd_T24 l1 a3).f2) = 26 then (some (((rd_T24 l1 a3).f5) == 0)) else (some false)) else ((interlockref07_taking.f ((rd_T24 l1 a2).f0) ((rd_T24 l1 a2).f1) ((rd_T24 l1 a2).f2) ((rd_T24 l1 a2).f3) ((rd_T24 l1 a2).f4) ((rd_T24 l1 a2).f5)).bind fun t153 => (if t153 = true then (if ((rd_T24 l1 a3).f2) = 20 then ((interlockref07_takings.f kj75 l1 ((rd_T24 l1 a2).f3) a2).bind fun t154 => ((interlockref07_room.f a0_0 a0_1 a0_2 l0_3 a0_4 a0_5 l0_6 ((rd_T24 l1 a2).f3)).bind fun t155 => ((interlockref07_sends.f kj75 l1 ((rd_T24 l1 a2).f3) a3).bind fun t156 => (some ((wrap64 (t154 + t155)) == t156))))) else (some false)) else (some false))))))) = some r := by rw [if_neg (show ¬ (false = true) by decide)] at H; exact H
                             clear H
                             have H := H1
                             clear H1
                             by_cases c95 : ((rd_T24 l1 a2).f2) = 20
                             · rw [if_pos c95] at H
                               have c95b0 : (((rd_T24 l1 a2).f2) == 20) = true := beq_iff_eq.mpr c95
                               have c95b1 : (((rd_T24 l1 a2).f2) != 20) = false := bne_eq_false_iff_eq.mpr c95
                               clear c95
                               replace H := Option.bind_eq_some_iff.mp H
                               obtain ⟨t150, A960, H⟩ := H
                               replace H : (if t150 = true then ((interlockref07_sends.f kj75 l1 ((rd_T24 l1 a2).f3) a2).bind fun t151 => ((interlockref07_takings.f kj75 l1 ((rd_T24 l1 a2).f3) a3).bind fun t152 => (some (t151 == t152)))) else (some false)) = some r := H
                               have A96 := Aside0.mk A960
                               clear A960
                               by_cases c97 : t150 = true
                               · subst c97
                                 have H1 : ((interlockref07_sends.f kj75 l1 ((rd_T24 l1 a2).f3) a2).bind fun t151 => ((interlockref07_takings.f kj75 l1 ((rd_T24 l1 a2).f3) a3).bind fun t152 => (some (t151 == t152)))) = some r := by rw [if_pos rfl] at H; exact H
                                 clear H
                                 have H := H1
                                 clear H1
                                 replace H := Option.bind_eq_some_iff.mp H
                                 obtain ⟨t151, A980, H⟩ := H
                                 replace H : ((interlockref07_takings.f kj75 l1 ((rd_T24 l1 a2).f3) a3).bind fun t152 => (some (t151 == t152))) = some r := H
                                 have A98 := Aside0.mk A980
                                 clear A980
                                 replace H := Option.bind_eq_some_iff.mp H
                                 obtain ⟨t152, A990, H⟩ := H
                                 replace H : (some (t151 == t152)) = some r := H
                                 have A99 := Aside0.mk A990
                                 clear A990
                                 obtain rfl := Option.some.inj H
                                 try go_wp2
                                 have n0_ := Aside0.mk (blk_drew BK143.out)
                                 have n1_ := Aside0.mk (blk_drew BK145.out)
                                 have n2_ := Aside0.mk (blk_drew BK147.out)
                                 have n3_ := Aside0.mk (below_drew1 HB.out)
                                 clear BK143
                                 clear BK145
                                 clear BK147
                                 clear HB
                                 have BK143 := n0_
                                 have BK145 := n1_
                                 have BK147 := n2_
                                 have HB := n3_
                                 clear n0_ n1_ n2_ n3_
                                 refine start_ (n := 16) (S := fun w' => w'.cell? ⟨gb147, 0, none⟩ = some (.int .i64 ((rd_T24 l1 a3).f0)) ∧ w'.cell? ⟨gb147, 1, none⟩ = some (.int .i64 ((rd_T24 l1 a3).f1)) ∧ w'.cell? ⟨gb147, 2, none⟩ = some (.int .u8 ((rd_T24 l1 a3).f2)) ∧ w'.cell? ⟨gb147, 3, none⟩ = some (.int .i64 ((rd_T24 l1 a3).f3)) ∧ w'.cell? ⟨gb147, 4, none⟩ = some (.int .i64 ((rd_T24 l1 a3).f4)) ∧ w'.cell? ⟨gb147, 5, none⟩ = some (.int .i64 ((rd_T24 l1 a3).f5)) ∧ w'.cell? ⟨gb145, 0, none⟩ = some (.int .i64 ((rd_T24 l1 a2).f0)) ∧ w'.cell? ⟨gb145, 1, none⟩ = some (.int .i64 ((rd_T24 l1 a2).f1)) ∧ w'.cell? ⟨gb145, 2, none⟩ = some (.int .u8 ((rd_T24 l1 a2).f2)) ∧ w'.cell? ⟨gb145, 3, none⟩ = some (.int .i64 ((rd_T24 l1 a2).f3)) ∧ w'.cell? ⟨gb145, 4, none⟩ = some (.int .i64 ((rd_T24 l1 a2).f4)) ∧ w'.cell? ⟨gb145, 5, none⟩ = some (.int .i64 ((rd_T24 l1 a2).f5))) (ds := []) (bl 16 0) (by kernel_rfl) rfl rfl ⟨(blk_cell BK147.out 0).trans rfl, (blk_cell BK147.out 1).trans rfl, (blk_cell BK147.out 2).trans rfl, (blk_cell BK147.out 3).trans rfl, (blk_cell BK147.out 4).trans rfl, (blk_cell BK147.out 5).trans rfl, (blk_cell BK145.out 0).trans rfl, (blk_cell BK145.out 1).trans rfl, (blk_cell BK145.out 2).trans rfl, (blk_cell BK145.out 3).trans rfl, (blk_cell BK145.out 4).trans rfl, (blk_cell BK145.out 5).trans rfl⟩ (fun hHeld => ?_); refine with_tabW interlockref07_Direct.tab19 interlockref07_Direct.bits19 (fun HT_ HW_ => ?_)
                                 generalize wc.drew = w100 at BK143 BK145 BK147 HB hHeld ⊢
                                 refine take_ (i := 0) (N := some 105) (v := ?_) (a' := ?_) (bl 16 1) rfl rfl (take_ofW HT_.out HW_.out (by kernel_rfl)) (fun _ _ _ h => h) (Or.inl ⟨by rfl, ?_⟩) hHeld ?_ ?_
                                 rotate_left
                                 · rintro w' ⟨s0, s1, s2, s3, s4, s5, s6, s7, s8, s9, s10, s11⟩
                                   go_simp
                                   with_reducible rfl
                                 rotate_left
                                 · simp only [Act.put, List.setIfInBounds_toArray, List.set_cons_zero, List.set_cons_succ, i64_w, i32_w]
                                   rfl
                                 refine one_ (i := 1) (N := some 106) (bl 16 3) rfl rfl (one_of HT_.out (by kernel_rfl)) (by decide) (fun K hK => ?_)
                                 refine goes_ Try.func34 (by kernel_rfl) rfl #[.agg #[.int .i64 ((rd_T24 l1 a3).f0), .int .i64 ((rd_T24 l1 a3).f1), .int .u8 ((rd_T24 l1 a3).f2), .int .i64 ((rd_T24 l1 a3).f3), .int .i64 ((rd_T24 l1 a3).f4), .int .i64 ((rd_T24 l1 a3).f5)]] (by rfl) rfl rfl (by (try simp only [List.map_toArray, List.map_cons, List.map_nil]); first | done | rfl | (simp only [List.length_drop, List.length_take]; rfl)) ?_
                                 with_reducible refine (interlockref07_taking.calls ((rd_T24 l1 a3).f0) ((rd_T24 l1 a3).f1) ((rd_T24 l1 a3).f2) ((rd_T24 l1 a3).f3) ((rd_T24 l1 a3).f4) ((rd_T24 l1 a3).f5) true _ A96.out).mono ?_
                                 rintro e w101 ⟨rfl, hb⟩
                                 refine ⟨_, rfl, ?_⟩
                                 have n0_ := Aside0.mk (blk_below (g := gb143) (o := .cells #[.int .i64 a0_0, .int .i64 a0_1, .int .i64 a0_2, .slice A0_3 l0_3.length c0_3, .int .i64 a0_4, .int .i64 a0_5, .slice A0_6 l0_6.length c0_6] 30 (0, 0)) (by (with_reducible repeat (first | refine blk_drewN ?_ _ | refine blk_drew ?_ | refine blk_alloc ?_ _)); exact BK143.out) hb)
                                 have n1_ := Aside0.mk (blk_below (g := gb145) (o := .cells #[.int .i64 ((rd_T24 l1 a2).f0), .int .i64 ((rd_T24 l1 a2).f1), .int .u8 ((rd_T24 l1 a2).f2), .int .i64 ((rd_T24 l1 a2).f3), .int .i64 ((rd_T24 l1 a2).f4), .int .i64 ((rd_T24 l1 a2).f5)] 24 (0, 0)) (by (with_reducible repeat (first | refine blk_drewN ?_ _ | refine blk_drew ?_ | refine blk_alloc ?_ _)); exact BK145.out) hb)
                                 have n2_ := Aside0.mk (blk_below (g := gb147) (o := .cells #[.int .i64 ((rd_T24 l1 a3).f0), .int .i64 ((rd_T24 l1 a3).f1), .int .u8 ((rd_T24 l1 a3).f2), .int .i64 ((rd_T24 l1 a3).f3), .int .i64 ((rd_T24 l1 a3).f4), .int .i64 ((rd_T24 l1 a3).f5)] 24 (0, 0)) (by (with_reducible repeat (first | refine blk_drewN ?_ _ | refine blk_drew ?_ | refine blk_alloc ?_ _)); exact BK147.out) hb)
                                 have n3_ := Aside0.mk (below_step (by repeat (first | (with_reducible first | exact HB.out | apply below_alloc | apply pw_below_drewN | apply below_drew1 | refine below_set ?_ GE143.out | refine below_set ?_ GE145.out | refine below_set ?_ GE147.out) | exact HB.out)) hb)
                                 clear BK143
                                 clear BK145
                                 clear BK147
                                 clear HB
                                 have BK143 := n0_
                                 have BK145 := n1_
                                 have BK147 := n2_
                                 have HB := n3_
                                 clear n0_ n1_ n2_ n3_
                                 (try clear hb)
                                 (try clear hb2)
                                 (try clear hk)
                                 (try clear hi)
                                 refine hK.out _ _ ⟨(blk_cell BK147.out 0).trans rfl, (blk_cell BK147.out 1).trans rfl, (blk_cell BK147.out 2).trans rfl, (blk_cell BK147.out 3).trans rfl, (blk_cell BK147.out 4).trans rfl, (blk_cell BK147.out 5).trans rfl, (blk_cell BK145.out 0).trans rfl, (blk_cell BK145.out 1).trans rfl, (blk_cell BK145.out 2).trans rfl, (blk_cell BK145.out 3).trans rfl, (blk_cell BK145.out 4).trans rfl, (blk_cell BK145.out 5).trans rfl⟩ (fun hHeld => ?_)
                                 clear hK K
                                 refine norm_ (a' := ?_) ?_ ?_
                                 rotate_left
                                 · show Act.put _ (some 106) _ = _
                                   simp only [Act.put, List.setIfInBounds_toArray, List.set_cons_zero, List.set_cons_succ, i64_w, i32_w]
                                   rfl
                                 refine pure_ (i := 2) (N := some 107) (v := ?_) (a' := ?_) (bl 16 7) rfl rfl (any_of HT_.out (by kernel_rfl)) (fun _ _ _ h => h) (Or.inl ⟨by rfl, ?_⟩) ?_ ?_
                                 rotate_left
                                 · intro w'
                                   go_simp
                                   with_reducible rfl
                                 rotate_left
                                 · simp only [Act.put, List.setIfInBounds_toArray, List.set_cons_zero, List.set_cons_succ, i64_w, i32_w]
                                   rfl
                                 refine pure_ (i := 3) (N := some 108) (v := ?_) (a' := ?_) (bl 16 15) rfl rfl (any_of HT_.out (by kernel_rfl)) (fun _ _ _ h => h) (Or.inl ⟨by rfl, ?_⟩) ?_ ?_
                                 rotate_left
                                 · intro w'
                                   go_simp
                                   with_reducible rfl
                                 rotate_left
                                 · simp only [Act.put, List.setIfInBounds_toArray, List.set_cons_zero, List.set_cons_succ, i64_w, i32_w]
                                   rfl
                                 refine pure_ (i := 4) (N := some 109) (v := ?_) (a' := ?_) (bl 16 31) rfl rfl (any_of HT_.out (by kernel_rfl)) (fun _ _ _ h => h) (Or.inl ⟨by rfl, ?_⟩) ?_ ?_
                                 rotate_left
                                 · intro w'
                                   go_simp
                                   with_reducible rfl
                                 rotate_left
                                 · simp only [Act.put, List.setIfInBounds_toArray, List.set_cons_zero, List.set_cons_succ, i64_w, i32_w]
                                   rfl
                                 refine pure_ (i := 6) (N := some 111) (v := ?_) (a' := ?_) (bl 16 95) rfl rfl (any_of HT_.out (by kernel_rfl)) (fun _ _ _ h => h) (Or.inl ⟨by rfl, ?_⟩) ?_ ?_
                                 rotate_left
                                 · intro w'
                                   go_simp
                                   with_reducible rfl
                                 rotate_left
                                 · simp only [Act.put, List.setIfInBounds_toArray, List.set_cons_zero, List.set_cons_succ, i64_w, i32_w]
                                   rfl
                                 refine pure_ (i := 8) (N := some 113) (v := ?_) (a' := ?_) (bl 16 351) rfl rfl (any_of HT_.out (by kernel_rfl)) (fun _ _ _ h => h) (Or.inl ⟨by rfl, ?_⟩) ?_ ?_
                                 rotate_left
                                 · intro w'
                                   go_simp
                                   with_reducible rfl
                                 rotate_left
                                 · simp only [Act.put, List.setIfInBounds_toArray, List.set_cons_zero, List.set_cons_succ, i64_w, i32_w]
                                   rfl
                                 refine pure_ (i := 9) (N := some 114) (v := ?_) (a' := ?_) (bl 16 863) rfl rfl (any_of HT_.out (by kernel_rfl)) (fun _ _ _ h => h) (Or.inl ⟨by rfl, ?_⟩) ?_ ?_
                                 rotate_left
                                 · intro w'
                                   go_simp
                                   with_reducible rfl
                                 rotate_left
                                 · simp only [Act.put, List.setIfInBounds_toArray, List.set_cons_zero, List.set_cons_succ, i64_w, i32_w]
                                   rfl
                                 refine pure_ (i := 11) (N := some 116) (v := ?_) (a' := ?_) (bl 16 2911) rfl rfl (any_of HT_.out (by kernel_rfl)) (fun _ _ _ h => h) (Or.inl ⟨by rfl, ?_⟩) ?_ ?_
                                 rotate_left
                                 · intro w'
                                   go_simp
                                   with_reducible rfl
                                 rotate_left
                                 · simp only [Act.put, List.setIfInBounds_toArray, List.set_cons_zero, List.set_cons_succ, i64_w, i32_w]
                                   rfl
                                 refine take_ (i := 5) (N := some 110) (v := ?_) (a' := ?_) (bl 16 2943) rfl rfl (take_ofW HT_.out HW_.out (by kernel_rfl)) (fun _ _ _ h => h) (Or.inl ⟨by rfl, ?_⟩) hHeld ?_ ?_
                                 rotate_left
                                 · rintro w' ⟨s0, s1, s2, s3, s4, s5, s6, s7, s8, s9, s10, s11⟩
                                   go_simp
                                   with_reducible rfl
                                 rotate_left
                                 · simp only [Act.put, List.setIfInBounds_toArray, List.set_cons_zero, List.set_cons_succ, i64_w, i32_w]
                                   rfl
                                 refine take_ (i := 10) (N := some 115) (v := ?_) (a' := ?_) (bl 16 3967) rfl rfl (take_ofW HT_.out HW_.out (by kernel_rfl)) (fun _ _ _ h => h) (Or.inl ⟨by rfl, ?_⟩) hHeld ?_ ?_
                                 rotate_left
                                 · rintro w' ⟨s0, s1, s2, s3, s4, s5, s6, s7, s8, s9, s10, s11⟩
                                   go_simp
                                   with_reducible rfl
                                 rotate_left
                                 · simp only [Act.put, List.setIfInBounds_toArray, List.set_cons_zero, List.set_cons_succ, i64_w, i32_w]
                                   rfl
                                 refine one_ (i := 7) (N := some 112) (bl 16 4095) rfl rfl (one_of HT_.out (by kernel_rfl)) (by decide) (fun K hK => ?_)
                                 refine goes_ Try.func35 (by kernel_rfl) rfl #[.slice (some ad144) l1.length c1, .int .i64 ((rd_T24 l1 a2).f3), .int .i64 a2] (by rfl) rfl rfl (by (try simp only [List.map_toArray, List.map_cons, List.map_nil]); first | done | rfl | (simp only [List.length_drop, List.length_take]; rfl)) ?_
                                 with_reducible refine (interlockref07_sends.calls kj75 _ _ l1 ((rd_T24 l1 a2).f3) a2 t151 _ ?side1 ?side2 A98.out).mono ?_
                                 (case side1 => repeat (first | exact (Kd.C_below HR1.out HB.out) | (with_reducible refine Kd.C_alloc ?_ _) | (with_reducible refine Kd.C_drewN ?_ _) | (with_reducible refine Kd.C_drew ?_)))
                                 (case side2 => exact HC1.out)
                                 rintro e w' ⟨rfl, ⟨nd, rfl⟩⟩
                                 refine ⟨_, rfl, ?_⟩
                                 refine hK.out _ _ ⟨(blk_cell BK147.out 0).trans rfl, (blk_cell BK147.out 1).trans rfl, (blk_cell BK147.out 2).trans rfl, (blk_cell BK147.out 3).trans rfl, (blk_cell BK147.out 4).trans rfl, (blk_cell BK147.out 5).trans rfl, (blk_cell BK145.out 0).trans rfl, (blk_cell BK145.out 1).trans rfl, (blk_cell BK145.out 2).trans rfl, (blk_cell BK145.out 3).trans rfl, (blk_cell BK145.out 4).trans rfl, (blk_cell BK145.out 5).trans rfl⟩ (fun hHeld => ?_)
                                 clear hK K
                                 refine norm_ (a' := ?_) ?_ ?_
                                 rotate_left
                                 · show Act.put _ (some 112) _ = _
                                   simp only [Act.put, List.setIfInBounds_toArray, List.set_cons_zero, List.set_cons_succ, i64_w, i32_w]
                                   rfl
                                 refine one_ (i := 12) (N := some 117) (bl 16 8191) rfl rfl (one_of HT_.out (by kernel_rfl)) (by decide) (fun K hK => ?_)
                                 refine goes_ Try.func36 (by kernel_rfl) rfl #[.slice (some ad144) l1.length c1, .int .i64 ((rd_T24 l1 a2).f3), .int .i64 a3] (by rfl) rfl rfl (by (try simp only [List.map_toArray, List.map_cons, List.map_nil]); first | done | rfl | (simp only [List.length_drop, List.length_take]; rfl)) ?_
                                 with_reducible refine (interlockref07_takings.calls kj75 _ _ l1 ((rd_T24 l1 a2).f3) a3 t152 _ ?side1 ?side2 A99.out).mono ?_
                                 (case side1 => repeat (first | exact (Kd.C_below HR1.out (by repeat (first | (with_reducible first | exact HB.out | apply below_alloc | apply pw_below_drewN | apply below_drew1 | refine below_set ?_ GE143.out | refine below_set ?_ GE145.out | refine below_set ?_ GE147.out) | exact HB.out))) | (with_reducible refine Kd.C_alloc ?_ _) | (with_reducible refine Kd.C_drewN ?_ _) | (with_reducible refine Kd.C_drew ?_)))
                                 (case side2 => exact HC1.out)
                                 rintro e w102 ⟨rfl, hb⟩
                                 refine ⟨_, rfl, ?_⟩
                                 have n0_ := Aside0.mk (blk_below (g := gb143) (o := .cells #[.int .i64 a0_0, .int .i64 a0_1, .int .i64 a0_2, .slice A0_3 l0_3.length c0_3, .int .i64 a0_4, .int .i64 a0_5, .slice A0_6 l0_6.length c0_6] 30 (0, 0)) (by (with_reducible repeat (first | refine blk_drewN ?_ _ | refine blk_drew ?_ | refine blk_alloc ?_ _)); exact BK143.out) hb)
                                 have n1_ := Aside0.mk (blk_below (g := gb145) (o := .cells #[.int .i64 ((rd_T24 l1 a2).f0), .int .i64 ((rd_T24 l1 a2).f1), .int .u8 ((rd_T24 l1 a2).f2), .int .i64 ((rd_T24 l1 a2).f3), .int .i64 ((rd_T24 l1 a2).f4), .int .i64 ((rd_T24 l1 a2).f5)] 24 (0, 0)) (by (with_reducible repeat (first | refine blk_drewN ?_ _ | refine blk_drew ?_ | refine blk_alloc ?_ _)); exact BK145.out) hb)
                                 have n2_ := Aside0.mk (blk_below (g := gb147) (o := .cells #[.int .i64 ((rd_T24 l1 a3).f0), .int .i64 ((rd_T24 l1 a3).f1), .int .u8 ((rd_T24 l1 a3).f2), .int .i64 ((rd_T24 l1 a3).f3), .int .i64 ((rd_T24 l1 a3).f4), .int .i64 ((rd_T24 l1 a3).f5)] 24 (0, 0)) (by (with_reducible repeat (first | refine blk_drewN ?_ _ | refine blk_drew ?_ | refine blk_alloc ?_ _)); exact BK147.out) hb)
                                 have n3_ := Aside0.mk (below_step (by repeat (first | (with_reducible first | exact HB.out | apply below_alloc | apply pw_below_drewN | apply below_drew1 | refine below_set ?_ GE143.out | refine below_set ?_ GE145.out | refine below_set ?_ GE147.out) | exact HB.out)) hb)
                                 clear BK143
                                 clear BK145
                                 clear BK147
                                 clear HB
                                 have BK143 := n0_
                                 have BK145 := n1_
                                 have BK147 := n2_
                                 have HB := n3_
                                 clear n0_ n1_ n2_ n3_
                                 (try clear hb)
                                 (try clear hb2)
                                 (try clear hk)
                                 (try clear hi)
                                 refine hK.out _ _ ⟨(blk_cell BK147.out 0).trans rfl, (blk_cell BK147.out 1).trans rfl, (blk_cell BK147.out 2).trans rfl, (blk_cell BK147.out 3).trans rfl, (blk_cell BK147.out 4).trans rfl, (blk_cell BK147.out 5).trans rfl, (blk_cell BK145.out 0).trans rfl, (blk_cell BK145.out 1).trans rfl, (blk_cell BK145.out 2).trans rfl, (blk_cell BK145.out 3).trans rfl, (blk_cell BK145.out 4).trans rfl, (blk_cell BK145.out 5).trans rfl⟩ (fun hHeld => ?_)
                                 clear hK K
                                 refine norm_ (a' := ?_) ?_ ?_
                                 rotate_left
                                 · show Act.put _ (some 117) _ = _
                                   simp only [Act.put, List.setIfInBounds_toArray, List.set_cons_zero, List.set_cons_succ, i64_w, i32_w]
                                   rfl
                                 refine pure_ (i := 13) (N := some 118) (v := ?_) (a' := ?_) (bl 16 16383) rfl rfl (any_of HT_.out (by kernel_rfl)) (fun _ _ _ h => h) (Or.inl ⟨by rfl, ?_⟩) ?_ ?_
                                 rotate_left
                                 · intro w'
                                   go_simp
                                   with_reducible rfl
                                 rotate_left
                                 · simp only [Act.put, List.setIfInBounds_toArray, List.set_cons_zero, List.set_cons_succ, i64_w, i32_w]
                                   rfl
                                 refine pure_ (i := 14) (N := some 119) (v := ?_) (a' := ?_) (bl 16 32767) rfl rfl (any_of HT_.out (by kernel_rfl)) (fun _ _ _ h => h) (Or.inl ⟨by rfl, ?_⟩) ?_ ?_
                                 rotate_left
                                 · intro w'
                                   go_simp
                                   with_reducible rfl
                                 rotate_left
                                 · simp only [Act.put, List.setIfInBounds_toArray, List.set_cons_zero, List.set_cons_succ, i64_w, i32_w]
                                   rfl
                                 refine pure_ (i := 15) (N := some 8) (v := ?_) (a' := ?_) (bl 16 65535) rfl rfl (any_of HT_.out (by kernel_rfl)) (fun _ _ _ h => h) (Or.inl ⟨by rfl, ?_⟩) ?_ ?_
                                 rotate_left
                                 · intro w'
                                   go_simp
                                   with_reducible rfl
                                 rotate_left
                                 · simp only [Act.put, List.setIfInBounds_toArray, List.set_cons_zero, List.set_cons_succ, i64_w, i32_w]
                                   rfl
                                 refine done_ (done_of HT_.out (by kernel_rfl)) ?_
                                 try go_wp2
                                 go_ret
                                 exact ⟨by first | rfl | (simp [errW_none, errW_some] <;> rfl) | (simp [*, errW_none, errW_some] <;> rfl), by repeat (first | (with_reducible first | exact HB.out | apply below_alloc | apply pw_below_drewN | apply below_drew1 | refine below_set ?_ GE143.out | refine below_set ?_ GE145.out | refine below_set ?_ GE147.out) | exact HB.out)⟩
                               · replace c97 := Bool.eq_false_iff.mpr c97
                                 subst c97
                                 have H1 : (some false) = some r := by rw [if_neg (show ¬ (false = true) by decide)] at H; exact H
                                 clear H
                                 have H := H1
                                 clear H1
                                 obtain rfl := Option.some.inj H
                                 try go_wp2
                                 have n0_ := Aside0.mk (blk_drew BK143.out)
                                 have n1_ := Aside0.mk (blk_drew BK145.out)
                                 have n2_ := Aside0.mk (blk_drew BK147.out)
                                 have n3_ := Aside0.mk (below_drew1 HB.out)
                                 clear BK143
                                 clear BK145
                                 clear BK147
                                 clear HB
                                 have BK143 := n0_
                                 have BK145 := n1_
                                 have BK147 := n2_
                                 have HB := n3_
                                 clear n0_ n1_ n2_ n3_
                                 refine start_ (n := 16) (S := fun w' => w'.cell? ⟨gb147, 0, none⟩ = some (.int .i64 ((rd_T24 l1 a3).f0)) ∧ w'.cell? ⟨gb147, 1, none⟩ = some (.int .i64 ((rd_T24 l1 a3).f1)) ∧ w'.cell? ⟨gb147, 2, none⟩ = some (.int .u8 ((rd_T24 l1 a3).f2)) ∧ w'.cell? ⟨gb147, 3, none⟩ = some (.int .i64 ((rd_T24 l1 a3).f3)) ∧ w'.cell? ⟨gb147, 4, none⟩ = some (.int .i64 ((rd_T24 l1 a3).f4)) ∧ w'.cell? ⟨gb147, 5, none⟩ = some (.int .i64 ((rd_T24 l1 a3).f5))) (ds := []) (bl 16 0) (by kernel_rfl) rfl rfl ⟨(blk_cell BK147.out 0).trans rfl, (blk_cell BK147.out 1).trans rfl, (blk_cell BK147.out 2).trans rfl, (blk_cell BK147.out 3).trans rfl, (blk_cell BK147.out 4).trans rfl, (blk_cell BK147.out 5).trans rfl⟩ (fun hHeld => ?_); refine with_tabW interlockref07_Direct.tab19 interlockref07_Direct.bits19 (fun HT_ HW_ => ?_)
                                 generalize wc.drew = w103 at BK143 BK145 BK147 HB hHeld ⊢
                                 refine take_ (i := 0) (N := some 105) (v := ?_) (a' := ?_) (bl 16 1) rfl rfl (take_ofW HT_.out HW_.out (by kernel_rfl)) (fun _ _ _ h => h) (Or.inl ⟨by rfl, ?_⟩) hHeld ?_ ?_
                                 rotate_left
                                 · rintro w' ⟨s0, s1, s2, s3, s4, s5⟩
                                   go_simp
                                   with_reducible rfl
                                 rotate_left
                                 · simp only [Act.put, List.setIfInBounds_toArray, List.set_cons_zero, List.set_cons_succ, i64_w, i32_w]
                                   rfl
                                 refine one_ (i := 1) (N := some 106) (bl 16 3) rfl rfl (one_of HT_.out (by kernel_rfl)) (by decide) (fun K hK => ?_)
                                 refine goes_ Try.func34 (by kernel_rfl) rfl #[.agg #[.int .i64 ((rd_T24 l1 a3).f0), .int .i64 ((rd_T24 l1 a3).f1), .int .u8 ((rd_T24 l1 a3).f2), .int .i64 ((rd_T24 l1 a3).f3), .int .i64 ((rd_T24 l1 a3).f4), .int .i64 ((rd_T24 l1 a3).f5)]] (by rfl) rfl rfl (by (try simp only [List.map_toArray, List.map_cons, List.map_nil]); first | done | rfl | (simp only [List.length_drop, List.length_take]; rfl)) ?_
                                 with_reducible refine (interlockref07_taking.calls ((rd_T24 l1 a3).f0) ((rd_T24 l1 a3).f1) ((rd_T24 l1 a3).f2) ((rd_T24 l1 a3).f3) ((rd_T24 l1 a3).f4) ((rd_T24 l1 a3).f5) false _ A96.out).mono ?_
                                 rintro e w104 ⟨rfl, hb⟩
                                 refine ⟨_, rfl, ?_⟩
                                 have n0_ := Aside0.mk (blk_below (g := gb143) (o := .cells #[.int .i64 a0_0, .int .i64 a0_1, .int .i64 a0_2, .slice A0_3 l0_3.length c0_3, .int .i64 a0_4, .int .i64 a0_5, .slice A0_6 l0_6.length c0_6] 30 (0, 0)) (by (with_reducible repeat (first | refine blk_drewN ?_ _ | refine blk_drew ?_ | refine blk_alloc ?_ _)); exact BK143.out) hb)
                                 have n1_ := Aside0.mk (blk_below (g := gb145) (o := .cells #[.int .i64 ((rd_T24 l1 a2).f0), .int .i64 ((rd_T24 l1 a2).f1), .int .u8 ((rd_T24 l1 a2).f2), .int .i64 ((rd_T24 l1 a2).f3), .int .i64 ((rd_T24 l1 a2).f4), .int .i64 ((rd_T24 l1 a2).f5)] 24 (0, 0)) (by (with_reducible repeat (first | refine blk_drewN ?_ _ | refine blk_drew ?_ | refine blk_alloc ?_ _)); exact BK145.out) hb)
                                 have n2_ := Aside0.mk (blk_below (g := gb147) (o := .cells #[.int .i64 ((rd_T24 l1 a3).f0), .int .i64 ((rd_T24 l1 a3).f1), .int .u8 ((rd_T24 l1 a3).f2), .int .i64 ((rd_T24 l1 a3).f3), .int .i64 ((rd_T24 l1 a3).f4), .int .i64 ((rd_T24 l1 a3).f5)] 24 (0, 0)) (by (with_reducible repeat (first | refine blk_drewN ?_ _ | refine blk_drew ?_ | refine blk_alloc ?_ _)); exact BK147.out) hb)
                                 have n3_ := Aside0.mk (below_step (by repeat (first | (with_reducible first | exact HB.out | apply below_alloc | apply pw_below_drewN | apply below_drew1 | refine below_set ?_ GE143.out | refine below_set ?_ GE145.out | refine below_set ?_ GE147.out) | exact HB.out)) hb)
                                 clear BK143
                                 clear BK145
                                 clear BK147
                                 clear HB
                                 have BK143 := n0_
                                 have BK145 := n1_
                                 have BK147 := n2_
                                 have HB := n3_
                                 clear n0_ n1_ n2_ n3_
                                 (try clear hb)
                                 (try clear hb2)
                                 (try clear hk)
                                 (try clear hi)
                                 refine hK.out _ _ ⟨(blk_cell BK147.out 0).trans rfl, (blk_cell BK147.out 1).trans rfl, (blk_cell BK147.out 2).trans rfl, (blk_cell BK147.out 3).trans rfl, (blk_cell BK147.out 4).trans rfl, (blk_cell BK147.out 5).trans rfl⟩ (fun hHeld => ?_)
                                 clear hK K
                                 refine norm_ (a' := ?_) ?_ ?_
                                 rotate_left
                                 · show Act.put _ (some 106) _ = _
                                   simp only [Act.put, List.setIfInBounds_toArray, List.set_cons_zero, List.set_cons_succ, i64_w, i32_w]
                                   rfl
                                 refine pure_ (i := 2) (N := some 107) (v := ?_) (a' := ?_) (bl 16 7) rfl rfl (any_of HT_.out (by kernel_rfl)) (fun _ _ _ h => h) (Or.inl ⟨by rfl, ?_⟩) ?_ ?_
                                 rotate_left
                                 · intro w'
                                   go_simp
                                   with_reducible rfl
                                 rotate_left
                                 · simp only [Act.put, List.setIfInBounds_toArray, List.set_cons_zero, List.set_cons_succ, i64_w, i32_w]
                                   rfl
                                 refine pure_ (i := 3) (N := some 108) (v := undef) (a' := ?_) (bl 16 15) rfl rfl (any_of HT_.out (by kernel_rfl)) (fun _ _ _ h => h) (Or.inr ⟨by rfl, rfl⟩) ?_ ?_
                                 rotate_left
                                 · simp only [Act.put, List.setIfInBounds_toArray, List.set_cons_zero, List.set_cons_succ, i64_w, i32_w]
                                   rfl
                                 refine pure_ (i := 4) (N := some 109) (v := undef) (a' := ?_) (bl 16 31) rfl rfl (any_of HT_.out (by kernel_rfl)) (fun _ _ _ h => h) (Or.inr ⟨by rfl, rfl⟩) ?_ ?_
                                 rotate_left
                                 · simp only [Act.put, List.setIfInBounds_toArray, List.set_cons_zero, List.set_cons_succ, i64_w, i32_w]
                                   rfl
                                 refine pure_ (i := 5) (N := some 110) (v := undef) (a' := ?_) (bl 16 63) rfl rfl (any_of HT_.out (by kernel_rfl)) (fun _ _ _ h => h) (Or.inr ⟨by rfl, rfl⟩) ?_ ?_
                                 rotate_left
                                 · simp only [Act.put, List.setIfInBounds_toArray, List.set_cons_zero, List.set_cons_succ, i64_w, i32_w]
                                   rfl
                                 refine pure_ (i := 6) (N := some 111) (v := undef) (a' := ?_) (bl 16 127) rfl rfl (any_of HT_.out (by kernel_rfl)) (fun _ _ _ h => h) (Or.inr ⟨by rfl, rfl⟩) ?_ ?_
                                 rotate_left
                                 · simp only [Act.put, List.setIfInBounds_toArray, List.set_cons_zero, List.set_cons_succ, i64_w, i32_w]
                                   rfl
                                 refine pure_ (i := 7) (N := some 112) (v := undef) (a' := ?_) (bl 16 255) rfl rfl (any_of HT_.out (by kernel_rfl)) (fun _ _ _ h => h) (Or.inr ⟨by rfl, rfl⟩) ?_ ?_
                                 rotate_left
                                 · simp only [Act.put, List.setIfInBounds_toArray, List.set_cons_zero, List.set_cons_succ, i64_w, i32_w]
                                   rfl
                                 refine pure_ (i := 8) (N := some 113) (v := undef) (a' := ?_) (bl 16 511) rfl rfl (any_of HT_.out (by kernel_rfl)) (fun _ _ _ h => h) (Or.inr ⟨by rfl, rfl⟩) ?_ ?_
                                 rotate_left
                                 · simp only [Act.put, List.setIfInBounds_toArray, List.set_cons_zero, List.set_cons_succ, i64_w, i32_w]
                                   rfl
                                 refine pure_ (i := 9) (N := some 114) (v := undef) (a' := ?_) (bl 16 1023) rfl rfl (any_of HT_.out (by kernel_rfl)) (fun _ _ _ h => h) (Or.inr ⟨by rfl, rfl⟩) ?_ ?_
                                 rotate_left
                                 · simp only [Act.put, List.setIfInBounds_toArray, List.set_cons_zero, List.set_cons_succ, i64_w, i32_w]
                                   rfl
                                 refine pure_ (i := 10) (N := some 115) (v := undef) (a' := ?_) (bl 16 2047) rfl rfl (any_of HT_.out (by kernel_rfl)) (fun _ _ _ h => h) (Or.inr ⟨by rfl, rfl⟩) ?_ ?_
                                 rotate_left
                                 · simp only [Act.put, List.setIfInBounds_toArray, List.set_cons_zero, List.set_cons_succ, i64_w, i32_w]
                                   rfl
                                 refine pure_ (i := 11) (N := some 116) (v := undef) (a' := ?_) (bl 16 4095) rfl rfl (any_of HT_.out (by kernel_rfl)) (fun _ _ _ h => h) (Or.inr ⟨by rfl, rfl⟩) ?_ ?_
                                 rotate_left
                                 · simp only [Act.put, List.setIfInBounds_toArray, List.set_cons_zero, List.set_cons_succ, i64_w, i32_w]
                                   rfl
                                 refine pure_ (i := 12) (N := some 117) (v := undef) (a' := ?_) (bl 16 8191) rfl rfl (any_of HT_.out (by kernel_rfl)) (fun _ _ _ h => h) (Or.inr ⟨by rfl, rfl⟩) ?_ ?_
                                 rotate_left
                                 · simp only [Act.put, List.setIfInBounds_toArray, List.set_cons_zero, List.set_cons_succ, i64_w, i32_w]
                                   rfl
                                 refine pure_ (i := 13) (N := some 118) (v := undef) (a' := ?_) (bl 16 16383) rfl rfl (any_of HT_.out (by kernel_rfl)) (fun _ _ _ h => h) (Or.inr ⟨by rfl, rfl⟩) ?_ ?_
                                 rotate_left
                                 · simp only [Act.put, List.setIfInBounds_toArray, List.set_cons_zero, List.set_cons_succ, i64_w, i32_w]
                                   rfl
                                 refine pure_ (i := 14) (N := some 119) (v := ?_) (a' := ?_) (bl 16 32767) rfl rfl (any_of HT_.out (by kernel_rfl)) (fun _ _ _ h => h) (Or.inl ⟨by rfl, ?_⟩) ?_ ?_
                                 rotate_left
                                 · intro w'
                                   go_simp
                                   with_reducible rfl
                                 rotate_left
                                 · simp only [Act.put, List.setIfInBounds_toArray, List.set_cons_zero, List.set_cons_succ, i64_w, i32_w]
                                   rfl
                                 refine pure_ (i := 15) (N := some 8) (v := ?_) (a' := ?_) (bl 16 65535) rfl rfl (any_of HT_.out (by kernel_rfl)) (fun _ _ _ h => h) (Or.inl ⟨by rfl, ?_⟩) ?_ ?_
                                 rotate_left
                                 · intro w'
                                   go_simp
                                   with_reducible rfl
                                 rotate_left
                                 · simp only [Act.put, List.setIfInBounds_toArray, List.set_cons_zero, List.set_cons_succ, i64_w, i32_w]
                                   rfl
                                 refine done_ (done_of HT_.out (by kernel_rfl)) ?_
                                 try go_wp2
                                 go_ret
                                 exact ⟨by first | rfl | (simp [errW_none, errW_some] <;> rfl) | (simp [*, errW_none, errW_some] <;> rfl), by repeat (first | (with_reducible first | exact HB.out | apply below_alloc | apply pw_below_drewN | apply below_drew1 | refine below_set ?_ GE143.out | refine below_set ?_ GE145.out | refine below_set ?_ GE147.out) | exact HB.out)⟩
                             · rw [if_neg c95] at H
                               have c95b0 : (((rd_T24 l1 a2).f2) == 20) = false := beq_eq_false_iff_ne.mpr c95
                               have c95b1 : (((rd_T24 l1 a2).f2) != 20) = true := bne_iff_ne.mpr c95
                               by_cases c105 : ((rd_T24 l1 a2).f2) = 23
                               · rw [if_pos c105] at H
                                 have c105b0 : (((rd_T24 l1 a2).f2) == 23) = true := beq_iff_eq.mpr c105
                                 have c105b1 : (((rd_T24 l1 a2).f2) != 23) = false := bne_eq_false_iff_eq.mpr c105
                                 clear c105
                                 obtain rfl := Option.some.inj H
                                 go_wp2
                                 go_ret
                                 exact ⟨by first | rfl | (simp [errW_none, errW_some] <;> rfl) | (simp [*, errW_none, errW_some] <;> rfl), by repeat (first | (with_reducible first | exact HB.out | apply below_alloc | apply pw_below_drewN | apply below_drew1 | refine below_set ?_ GE143.out | refine below_set ?_ GE145.out | refine below_set ?_ GE147.out) | exact HB.out)⟩
                               · rw [if_neg c105] at H
                                 have c105b0 : (((rd_T24 l1 a2).f2) == 23) = false := beq_eq_false_iff_ne.mpr c105
                                 have c105b1 : (((rd_T24 l1 a2).f2) != 23) = true := bne_iff_ne.mpr c105
                                 by_cases c106 : ((rd_T24 l1 a2).f2) = 24
                                 · rw [if_pos c106] at H
                                   have c106b0 : (((rd_T24 l1 a2).f2) == 24) = true := beq_iff_eq.mpr c106
                                   have c106b1 : (((rd_T24 l1 a2).f2) != 24) = false := bne_eq_false_iff_eq.mpr c106
                                   clear c106
                                   by_cases c107 : ((rd_T24 l1 a2).f4) < 0
                                   · rw [if_pos c107] at H
                                     have c107b0 : decide (((rd_T24 l1 a2).f4) < 0) = true := decide_eq_true c107
                                     clear c107
                                     obtain rfl := Option.some.inj H
                                     have hnb108 := NB145_143.out
                                     have hnc108 := NB143_145.out
                                     have hnb109 := NB145_147.out
                                     have hnc109 := NB147_145.out
                                     have hcz110_0 : wc.cell? ⟨gb145, 0, none⟩ = some (.int .i64 ((rd_T24 l1 a2).f0)) := (blk_cell BK145.out 0).trans rfl
                                     have hcz110_1 : wc.cell? ⟨gb145, 1, none⟩ = some (.int .i64 ((rd_T24 l1 a2).f1)) := (blk_cell BK145.out 1).trans rfl
                                     have hcz110_2 : wc.cell? ⟨gb145, 2, none⟩ = some (.int .u8 ((rd_T24 l1 a2).f2)) := (blk_cell BK145.out 2).trans rfl
                                     have hcz110_3 : wc.cell? ⟨gb145, 3, none⟩ = some (.int .i64 ((rd_T24 l1 a2).f3)) := (blk_cell BK145.out 3).trans rfl
                                     have hcz110_4 : wc.cell? ⟨gb145, 4, none⟩ = some (.int .i64 ((rd_T24 l1 a2).f4)) := (blk_cell BK145.out 4).trans rfl
                                     have hcz110_5 : wc.cell? ⟨gb145, 5, none⟩ = some (.int .i64 ((rd_T24 l1 a2).f5)) := (blk_cell BK145.out 5).trans rfl
                                     have hfz110_0 := blk_frozen BK145.out 0
                                     have hfz110_1 := blk_frozen BK145.out 1
                                     have hfz110_2 := blk_frozen BK145.out 2
                                     have hfz110_3 := blk_frozen BK145.out 3
                                     have hfz110_4 := blk_frozen BK145.out 4
                                     have hfz110_5 := blk_frozen BK145.out 5
                                     have hnb111 := NB147_143.out
                                     have hnc111 := NB143_147.out
                                     have hcz112_0 : wc.cell? ⟨gb147, 0, none⟩ = some (.int .i64 ((rd_T24 l1 a3).f0)) := (blk_cell BK147.out 0).trans rfl
                                     have hcz112_1 : wc.cell? ⟨gb147, 1, none⟩ = some (.int .i64 ((rd_T24 l1 a3).f1)) := (blk_cell BK147.out 1).trans rfl
                                     have hcz112_2 : wc.cell? ⟨gb147, 2, none⟩ = some (.int .u8 ((rd_T24 l1 a3).f2)) := (blk_cell BK147.out 2).trans rfl
                                     have hcz112_3 : wc.cell? ⟨gb147, 3, none⟩ = some (.int .i64 ((rd_T24 l1 a3).f3)) := (blk_cell BK147.out 3).trans rfl
                                     have hcz112_4 : wc.cell? ⟨gb147, 4, none⟩ = some (.int .i64 ((rd_T24 l1 a3).f4)) := (blk_cell BK147.out 4).trans rfl
                                     have hcz112_5 : wc.cell? ⟨gb147, 5, none⟩ = some (.int .i64 ((rd_T24 l1 a3).f5)) := (blk_cell BK147.out 5).trans rfl
                                     have hfz112_0 := blk_frozen BK147.out 0
                                     have hfz112_1 := blk_frozen BK147.out 1
                                     have hfz112_2 := blk_frozen BK147.out 2
                                     have hfz112_3 := blk_frozen BK147.out 3
                                     have hfz112_4 := blk_frozen BK147.out 4
                                     have hfz112_5 := blk_frozen BK147.out 5
                                     go_wp2
                                     go_ret
                                     exact ⟨by first | rfl | (simp [errW_none, errW_some] <;> rfl) | (simp [*, errW_none, errW_some] <;> rfl), by repeat (first | (with_reducible first | exact HB.out | apply below_alloc | apply pw_below_drewN | apply below_drew1 | refine below_set ?_ GE143.out | refine below_set ?_ GE145.out | refine below_set ?_ GE147.out) | exact HB.out)⟩
                                   · rw [if_neg c107] at H
                                     have c107b0 : decide (((rd_T24 l1 a2).f4) < 0) = false := decide_eq_false c107
                                     clear c107
                                     obtain rfl := Option.some.inj H
                                     have hnb113 := NB145_143.out
                                     have hnc113 := NB143_145.out
                                     have hnb114 := NB145_147.out
                                     have hnc114 := NB147_145.out
                                     have hcz115_0 : wc.cell? ⟨gb145, 0, none⟩ = some (.int .i64 ((rd_T24 l1 a2).f0)) := (blk_cell BK145.out 0).trans rfl
                                     have hcz115_1 : wc.cell? ⟨gb145, 1, none⟩ = some (.int .i64 ((rd_T24 l1 a2).f1)) := (blk_cell BK145.out 1).trans rfl
                                     have hcz115_2 : wc.cell? ⟨gb145, 2, none⟩ = some (.int .u8 ((rd_T24 l1 a2).f2)) := (blk_cell BK145.out 2).trans rfl
                                     have hcz115_3 : wc.cell? ⟨gb145, 3, none⟩ = some (.int .i64 ((rd_T24 l1 a2).f3)) := (blk_cell BK145.out 3).trans rfl
                                     have hcz115_4 : wc.cell? ⟨gb145, 4, none⟩ = some (.int .i64 ((rd_T24 l1 a2).f4)) := (blk_cell BK145.out 4).trans rfl
                                     have hcz115_5 : wc.cell? ⟨gb145, 5, none⟩ = some (.int .i64 ((rd_T24 l1 a2).f5)) := (blk_cell BK145.out 5).trans rfl
                                     have hfz115_0 := blk_frozen BK145.out 0
                                     have hfz115_1 := blk_frozen BK145.out 1
                                     have hfz115_2 := blk_frozen BK145.out 2
                                     have hfz115_3 := blk_frozen BK145.out 3
                                     have hfz115_4 := blk_frozen BK145.out 4
                                     have hfz115_5 := blk_frozen BK145.out 5
                                     go_wp2
                                     go_ret
                                     exact ⟨by first | rfl | (simp [errW_none, errW_some] <;> rfl) | (simp [*, errW_none, errW_some] <;> rfl), by repeat (first | (with_reducible first | exact HB.out | apply below_alloc | apply pw_below_drewN | apply below_drew1 | refine below_set ?_ GE143.out | refine below_set ?_ GE145.out | refine below_set ?_ GE147.out) | exact HB.out)⟩
                                 · rw [if_neg c106] at H
                                   have c106b0 : (((rd_T24 l1 a2).f2) == 24) = false := beq_eq_false_iff_ne.mpr c106
                                   have c106b1 : (((rd_T24 l1 a2).f2) != 24) = true := bne_iff_ne.mpr c106
                                   by_cases c116 : ((rd_T24 l1 a2).f2) = 27
                                   · rw [if_pos c116] at H
                                     have c116b0 : (((rd_T24 l1 a2).f2) == 27) = true := beq_iff_eq.mpr c116
                                     have c116b1 : (((rd_T24 l1 a2).f2) != 27) = false := bne_eq_false_iff_eq.mpr c116
                                     clear c116
                                     by_cases c117 : ((rd_T24 l1 a3).f2) = 26
                                     · rw [if_pos c117] at H
                                       have c117b0 : (((rd_T24 l1 a3).f2) == 26) = true := beq_iff_eq.mpr c117
                                       have c117b1 : (((rd_T24 l1 a3).f2) != 26) = false := bne_eq_false_iff_eq.mpr c117
                                       clear c117
                                       obtain rfl := Option.some.inj H
                                       have hnb118 := NB147_143.out
                                       have hnc118 := NB143_147.out
                                       have hnb119 := NB147_145.out
                                       have hnc119 := NB145_147.out
                                       have hcz120_0 : wc.cell? ⟨gb147, 0, none⟩ = some (.int .i64 ((rd_T24 l1 a3).f0)) := (blk_cell BK147.out 0).trans rfl
                                       have hcz120_1 : wc.cell? ⟨gb147, 1, none⟩ = some (.int .i64 ((rd_T24 l1 a3).f1)) := (blk_cell BK147.out 1).trans rfl
                                       have hcz120_2 : wc.cell? ⟨gb147, 2, none⟩ = some (.int .u8 ((rd_T24 l1 a3).f2)) := (blk_cell BK147.out 2).trans rfl
                                       have hcz120_3 : wc.cell? ⟨gb147, 3, none⟩ = some (.int .i64 ((rd_T24 l1 a3).f3)) := (blk_cell BK147.out 3).trans rfl
                                       have hcz120_4 : wc.cell? ⟨gb147, 4, none⟩ = some (.int .i64 ((rd_T24 l1 a3).f4)) := (blk_cell BK147.out 4).trans rfl
                                       have hcz120_5 : wc.cell? ⟨gb147, 5, none⟩ = some (.int .i64 ((rd_T24 l1 a3).f5)) := (blk_cell BK147.out 5).trans rfl
                                       have hfz120_0 := blk_frozen BK147.out 0
                                       have hfz120_1 := blk_frozen BK147.out 1
                                       have hfz120_2 := blk_frozen BK147.out 2
                                       have hfz120_3 := blk_frozen BK147.out 3
                                       have hfz120_4 := blk_frozen BK147.out 4
                                       have hfz120_5 := blk_frozen BK147.out 5
                                       go_wp2
                                       go_ret
                                       exact ⟨by first | rfl | (simp [errW_none, errW_some] <;> rfl) | (simp [*, errW_none, errW_some] <;> rfl), by repeat (first | (with_reducible first | exact HB.out | apply below_alloc | apply pw_below_drewN | apply below_drew1 | refine below_set ?_ GE143.out | refine below_set ?_ GE145.out | refine below_set ?_ GE147.out) | exact HB.out)⟩
                                     · rw [if_neg c117] at H
                                       have c117b0 : (((rd_T24 l1 a3).f2) == 26) = false := beq_eq_false_iff_ne.mpr c117
                                       have c117b1 : (((rd_T24 l1 a3).f2) != 26) = true := bne_iff_ne.mpr c117
                                       obtain rfl := Option.some.inj H
                                       have hnb121 := NB147_143.out
                                       have hnc121 := NB143_147.out
                                       have hnb122 := NB147_145.out
                                       have hnc122 := NB145_147.out
                                       have hcz123_0 : wc.cell? ⟨gb147, 0, none⟩ = some (.int .i64 ((rd_T24 l1 a3).f0)) := (blk_cell BK147.out 0).trans rfl
                                       have hcz123_1 : wc.cell? ⟨gb147, 1, none⟩ = some (.int .i64 ((rd_T24 l1 a3).f1)) := (blk_cell BK147.out 1).trans rfl
                                       have hcz123_2 : wc.cell? ⟨gb147, 2, none⟩ = some (.int .u8 ((rd_T24 l1 a3).f2)) := (blk_cell BK147.out 2).trans rfl
                                       have hcz123_3 : wc.cell? ⟨gb147, 3, none⟩ = some (.int .i64 ((rd_T24 l1 a3).f3)) := (blk_cell BK147.out 3).trans rfl
                                       have hcz123_4 : wc.cell? ⟨gb147, 4, none⟩ = some (.int .i64 ((rd_T24 l1 a3).f4)) := (blk_cell BK147.out 4).trans rfl
                                       have hcz123_5 : wc.cell? ⟨gb147, 5, none⟩ = some (.int .i64 ((rd_T24 l1 a3).f5)) := (blk_cell BK147.out 5).trans rfl
                                       have hfz123_0 := blk_frozen BK147.out 0
                                       have hfz123_1 := blk_frozen BK147.out 1
                                       have hfz123_2 := blk_frozen BK147.out 2
                                       have hfz123_3 := blk_frozen BK147.out 3
                                       have hfz123_4 := blk_frozen BK147.out 4
                                       have hfz123_5 := blk_frozen BK147.out 5
                                       go_wp2
                                       go_ret
                                       exact ⟨by first | rfl | (simp [errW_none, errW_some] <;> rfl) | (simp [*, errW_none, errW_some] <;> rfl), by repeat (first | (with_reducible first | exact HB.out | apply below_alloc | apply pw_below_drewN | apply below_drew1 | refine below_set ?_ GE143.out | refine below_set ?_ GE145.out | refine below_set ?_ GE147.out) | exact HB.out)⟩
                                   · rw [if_neg c116] at H
                                     have c116b0 : (((rd_T24 l1 a2).f2) == 27) = false := beq_eq_false_iff_ne.mpr c116
                                     have c116b1 : (((rd_T24 l1 a2).f2) != 27) = true := bne_iff_ne.mpr c116
                                     replace H := Option.bind_eq_some_iff.mp H
                                     obtain ⟨t153, A1240, H⟩ := H
                                     replace H : (if t153 = true then (if ((rd_T24 l1 a3).f2) = 20 then ((interlockref07_takings.f kj75 l1 ((rd_T24 l1 a2).f3) a2).bind fun t154 => ((interlockref07_room.f a0_0 a0_1 a0_2 l0_3 a0_4 a0_5 l0_6 ((rd_T24 l1 a2).f3)).bind fun t155 => ((interlockref07_sends.f kj75 l1 ((rd_T24 l1 a2).f3) a3).bind fun t156 => (some ((wrap64 (t154 + t155)) == t156))))) else (some false)) else (some false)) = some r := H
                                     have A124 := Aside0.mk A1240
                                     clear A1240
                                     by_cases c125 : t153 = true
                                     · subst c125
                                       have H1 : (if ((rd_T24 l1 a3).f2) = 20 then ((interlockref07_takings.f kj75 l1 ((rd_T24 l1 a2).f3) a2).bind fun t154 => ((interlockref07_room.f a0_0 a0_1 a0_2 l0_3 a0_4 a0_5 l0_6 ((rd_T24 l1 a2).f3)).bind fun t155 => ((interlockref07_sends.f kj75 l1 ((rd_T24 l1 a2).f3) a3).bind fun t156 => (some ((wrap64 (t154 + t155)) == t156))))) else (some false)) = some r := by rw [if_pos rfl] at H; exact H
                                       clear H
                                       have H := H1
                                       clear H1
                                       by_cases c126 : ((rd_T24 l1 a3).f2) = 20
                                       · rw [if_pos c126] at H
                                         have c126b0 : (((rd_T24 l1 a3).f2) == 20) = true := beq_iff_eq.mpr c126
                                         have c126b1 : (((rd_T24 l1 a3).f2) != 20) = false := bne_eq_false_iff_eq.mpr c126
                                         clear c126
                                         replace H := Option.bind_eq_some_iff.mp H
                                         obtain ⟨t154, A1270, H⟩ := H
                                         replace H : ((interlockref07_room.f a0_0 a0_1 a0_2 l0_3 a0_4 a0_5 l0_6 ((rd_T24 l1 a2).f3)).bind fun t155 => ((interlockref07_sends.f kj75 l1 ((rd_T24 l1 a2).f3) a3).bind fun t156 => (some ((wrap64 (t154 + t155)) == t156)))) = some r := H
                                         have A127 := Aside0.mk A1270
                                         clear A1270
                                         replace H := Option.bind_eq_some_iff.mp H
                                         obtain ⟨t155, A1280, H⟩ := H
                                         replace H : ((interlockref07_sends.f kj75 l1 ((rd_T24 l1 a2).f3) a3).bind fun t156 => (some ((wrap64 (t154 + t155)) == t156))) = some r := H
                                         have A128 := Aside0.mk A1280
                                         clear A1280
                                         replace H := Option.bind_eq_some_iff.mp H
                                         obtain ⟨t156, A1290, H⟩ := H
                                         replace H : (some ((wrap64 (t154 + t155)) == t156)) = some r := H
                                         have A129 := Aside0.mk A1290
                                         clear A1290
                                         obtain rfl := Option.some.inj H
                                         try go_wp2
                                         have n0_ := Aside0.mk (blk_drew BK143.out)
                                         have n1_ := Aside0.mk (blk_drew BK145.out)
                                         have n2_ := Aside0.mk (blk_drew BK147.out)
                                         have n3_ := Aside0.mk (below_drew1 HB.out)
                                         clear BK143
                                         clear BK145
                                         clear BK147
                                         clear HB
                                         have BK143 := n0_
                                         have BK145 := n1_
                                         have BK147 := n2_
                                         have HB := n3_
                                         clear n0_ n1_ n2_ n3_
                                         refine start_ (n := 26) (S := fun w' => w'.cell? ⟨gb145, 0, none⟩ = some (.int .i64 ((rd_T24 l1 a2).f0)) ∧ w'.cell? ⟨gb145, 1, none⟩ = some (.int .i64 ((rd_T24 l1 a2).f1)) ∧ w'.cell? ⟨gb145, 2, none⟩ = some (.int .u8 ((rd_T24 l1 a2).f2)) ∧ w'.cell? ⟨gb145, 3, none⟩ = some (.int .i64 ((rd_T24 l1 a2).f3)) ∧ w'.cell? ⟨gb145, 4, none⟩ = some (.int .i64 ((rd_T24 l1 a2).f4)) ∧ w'.cell? ⟨gb145, 5, none⟩ = some (.int .i64 ((rd_T24 l1 a2).f5)) ∧ w'.cell? ⟨gb147, 0, none⟩ = some (.int .i64 ((rd_T24 l1 a3).f0)) ∧ w'.cell? ⟨gb147, 1, none⟩ = some (.int .i64 ((rd_T24 l1 a3).f1)) ∧ w'.cell? ⟨gb147, 2, none⟩ = some (.int .u8 ((rd_T24 l1 a3).f2)) ∧ w'.cell? ⟨gb147, 3, none⟩ = some (.int .i64 ((rd_T24 l1 a3).f3)) ∧ w'.cell? ⟨gb147, 4, none⟩ = some (.int .i64 ((rd_T24 l1 a3).f4)) ∧ w'.cell? ⟨gb147, 5, none⟩ = some (.int .i64 ((rd_T24 l1 a3).f5)) ∧ w'.cell? ⟨gb143, 0, none⟩ = some (.int .i64 a0_0) ∧ w'.cell? ⟨gb143, 1, none⟩ = some (.int .i64 a0_1) ∧ w'.cell? ⟨gb143, 2, none⟩ = some (.int .i64 a0_2) ∧ w'.cell? ⟨gb143, 3, none⟩ = some (.slice A0_3 l0_3.length c0_3) ∧ w'.cell? ⟨gb143, 4, none⟩ = some (.int .i64 a0_4) ∧ w'.cell? ⟨gb143, 5, none⟩ = some (.int .i64 a0_5) ∧ w'.cell? ⟨gb143, 6, none⟩ = some (.slice A0_6 l0_6.length c0_6)) (ds := []) (bl 26 0) (by kernel_rfl) rfl rfl ⟨(blk_cell BK145.out 0).trans rfl, (blk_cell BK145.out 1).trans rfl, (blk_cell BK145.out 2).trans rfl, (blk_cell BK145.out 3).trans rfl, (blk_cell BK145.out 4).trans rfl, (blk_cell BK145.out 5).trans rfl, (blk_cell BK147.out 0).trans rfl, (blk_cell BK147.out 1).trans rfl, (blk_cell BK147.out 2).trans rfl, (blk_cell BK147.out 3).trans rfl, (blk_cell BK147.out 4).trans rfl, (blk_cell BK147.out 5).trans rfl, (blk_cell BK143.out 0).trans rfl, (blk_cell BK143.out 1).trans rfl, (blk_cell BK143.out 2).trans rfl, (blk_cell BK143.out 3).trans rfl, (blk_cell BK143.out 4).trans rfl, (blk_cell BK143.out 5).trans rfl, (blk_cell BK143.out 6).trans rfl⟩ (fun hHeld => ?_); refine with_tabW interlockref07_Direct.tab26 interlockref07_Direct.bits26 (fun HT_ HW_ => ?_)
                                         generalize wc.drew = w130 at BK143 BK145 BK147 HB hHeld ⊢
                                         refine take_ (i := 0) (N := some 143) (v := ?_) (a' := ?_) (bl 26 1) rfl rfl (take_ofW HT_.out HW_.out (by kernel_rfl)) (fun _ _ _ h => h) (Or.inl ⟨by rfl, ?_⟩) hHeld ?_ ?_
                                         rotate_left
                                         · rintro w' ⟨s0, s1, s2, s3, s4, s5, s6, s7, s8, s9, s10, s11, s12, s13, s14, s15, s16, s17, s18⟩
                                           go_simp
                                           with_reducible rfl
                                         rotate_left
                                         · simp only [Act.put, List.setIfInBounds_toArray, List.set_cons_zero, List.set_cons_succ, i64_w, i32_w]
                                           rfl
                                         refine one_ (i := 1) (N := some 144) (bl 26 3) rfl rfl (one_of HT_.out (by kernel_rfl)) (by decide) (fun K hK => ?_)
                                         refine goes_ Try.func34 (by kernel_rfl) rfl #[.agg #[.int .i64 ((rd_T24 l1 a2).f0), .int .i64 ((rd_T24 l1 a2).f1), .int .u8 ((rd_T24 l1 a2).f2), .int .i64 ((rd_T24 l1 a2).f3), .int .i64 ((rd_T24 l1 a2).f4), .int .i64 ((rd_T24 l1 a2).f5)]] (by rfl) rfl rfl (by (try simp only [List.map_toArray, List.map_cons, List.map_nil]); first | done | rfl | (simp only [List.length_drop, List.length_take]; rfl)) ?_
                                         with_reducible refine (interlockref07_taking.calls ((rd_T24 l1 a2).f0) ((rd_T24 l1 a2).f1) ((rd_T24 l1 a2).f2) ((rd_T24 l1 a2).f3) ((rd_T24 l1 a2).f4) ((rd_T24 l1 a2).f5) true _ A124.out).mono ?_
                                         rintro e w131 ⟨rfl, hb⟩
                                         refine ⟨_, rfl, ?_⟩
                                         have n0_ := Aside0.mk (blk_below (g := gb143) (o := .cells #[.int .i64 a0_0, .int .i64 a0_1, .int .i64 a0_2, .slice A0_3 l0_3.length c0_3, .int .i64 a0_4, .int .i64 a0_5, .slice A0_6 l0_6.length c0_6] 30 (0, 0)) (by (with_reducible repeat (first | refine blk_drewN ?_ _ | refine blk_drew ?_ | refine blk_alloc ?_ _)); exact BK143.out) hb)
                                         have n1_ := Aside0.mk (blk_below (g := gb145) (o := .cells #[.int .i64 ((rd_T24 l1 a2).f0), .int .i64 ((rd_T24 l1 a2).f1), .int .u8 ((rd_T24 l1 a2).f2), .int .i64 ((rd_T24 l1 a2).f3), .int .i64 ((rd_T24 l1 a2).f4), .int .i64 ((rd_T24 l1 a2).f5)] 24 (0, 0)) (by (with_reducible repeat (first | refine blk_drewN ?_ _ | refine blk_drew ?_ | refine blk_alloc ?_ _)); exact BK145.out) hb)
                                         have n2_ := Aside0.mk (blk_below (g := gb147) (o := .cells #[.int .i64 ((rd_T24 l1 a3).f0), .int .i64 ((rd_T24 l1 a3).f1), .int .u8 ((rd_T24 l1 a3).f2), .int .i64 ((rd_T24 l1 a3).f3), .int .i64 ((rd_T24 l1 a3).f4), .int .i64 ((rd_T24 l1 a3).f5)] 24 (0, 0)) (by (with_reducible repeat (first | refine blk_drewN ?_ _ | refine blk_drew ?_ | refine blk_alloc ?_ _)); exact BK147.out) hb)
                                         have n3_ := Aside0.mk (below_step (by repeat (first | (with_reducible first | exact HB.out | apply below_alloc | apply pw_below_drewN | apply below_drew1 | refine below_set ?_ GE143.out | refine below_set ?_ GE145.out | refine below_set ?_ GE147.out) | exact HB.out)) hb)
                                         clear BK143
                                         clear BK145
                                         clear BK147
                                         clear HB
                                         have BK143 := n0_
                                         have BK145 := n1_
                                         have BK147 := n2_
                                         have HB := n3_
                                         clear n0_ n1_ n2_ n3_
                                         (try clear hb)
                                         (try clear hb2)
                                         (try clear hk)
                                         (try clear hi)
                                         refine hK.out _ _ ⟨(blk_cell BK145.out 0).trans rfl, (blk_cell BK145.out 1).trans rfl, (blk_cell BK145.out 2).trans rfl, (blk_cell BK145.out 3).trans rfl, (blk_cell BK145.out 4).trans rfl, (blk_cell BK145.out 5).trans rfl, (blk_cell BK147.out 0).trans rfl, (blk_cell BK147.out 1).trans rfl, (blk_cell BK147.out 2).trans rfl, (blk_cell BK147.out 3).trans rfl, (blk_cell BK147.out 4).trans rfl, (blk_cell BK147.out 5).trans rfl, (blk_cell BK143.out 0).trans rfl, (blk_cell BK143.out 1).trans rfl, (blk_cell BK143.out 2).trans rfl, (blk_cell BK143.out 3).trans rfl, (blk_cell BK143.out 4).trans rfl, (blk_cell BK143.out 5).trans rfl, (blk_cell BK143.out 6).trans rfl⟩ (fun hHeld => ?_)
                                         clear hK K
                                         refine norm_ (a' := ?_) ?_ ?_
                                         rotate_left
                                         · show Act.put _ (some 144) _ = _
                                           simp only [Act.put, List.setIfInBounds_toArray, List.set_cons_zero, List.set_cons_succ, i64_w, i32_w]
                                           rfl
                                         refine pure_ (i := 2) (N := some 145) (v := ?_) (a' := ?_) (bl 26 7) rfl rfl (any_of HT_.out (by kernel_rfl)) (fun _ _ _ h => h) (Or.inl ⟨by rfl, ?_⟩) ?_ ?_
                                         rotate_left
                                         · intro w'
                                           go_simp
                                           with_reducible rfl
                                         rotate_left
                                         · simp only [Act.put, List.setIfInBounds_toArray, List.set_cons_zero, List.set_cons_succ, i64_w, i32_w]
                                           rfl
                                         refine pure_ (i := 3) (N := some 146) (v := ?_) (a' := ?_) (bl 26 15) rfl rfl (any_of HT_.out (by kernel_rfl)) (fun _ _ _ h => h) (Or.inl ⟨by rfl, ?_⟩) ?_ ?_
                                         rotate_left
                                         · intro w'
                                           go_simp
                                           with_reducible rfl
                                         rotate_left
                                         · simp only [Act.put, List.setIfInBounds_toArray, List.set_cons_zero, List.set_cons_succ, i64_w, i32_w]
                                           rfl
                                         refine take_ (i := 4) (N := some 147) (v := ?_) (a' := ?_) (bl 26 31) rfl rfl (take_ofW HT_.out HW_.out (by kernel_rfl)) (fun _ _ _ h => h) (Or.inl ⟨by rfl, ?_⟩) hHeld ?_ ?_
                                         rotate_left
                                         · rintro w' ⟨s0, s1, s2, s3, s4, s5, s6, s7, s8, s9, s10, s11, s12, s13, s14, s15, s16, s17, s18⟩
                                           go_simp
                                           with_reducible rfl
                                         rotate_left
                                         · simp only [Act.put, List.setIfInBounds_toArray, List.set_cons_zero, List.set_cons_succ, i64_w, i32_w]
                                           rfl
                                         refine pure_ (i := 5) (N := some 148) (v := ?_) (a' := ?_) (bl 26 63) rfl rfl (any_of HT_.out (by kernel_rfl)) (fun _ _ _ h => h) (Or.inl ⟨by rfl, ?_⟩) ?_ ?_
                                         rotate_left
                                         · intro w'
                                           go_simp
                                           with_reducible rfl
                                         rotate_left
                                         · simp only [Act.put, List.setIfInBounds_toArray, List.set_cons_zero, List.set_cons_succ, i64_w, i32_w]
                                           rfl
                                         refine pure_ (i := 6) (N := some 149) (v := ?_) (a' := ?_) (bl 26 127) rfl rfl (any_of HT_.out (by kernel_rfl)) (fun _ _ _ h => h) (Or.inl ⟨by rfl, ?_⟩) ?_ ?_
                                         rotate_left
                                         · intro w'
                                           go_simp
                                           with_reducible rfl
                                         rotate_left
                                         · simp only [Act.put, List.setIfInBounds_toArray, List.set_cons_zero, List.set_cons_succ, i64_w, i32_w]
                                           rfl
                                         refine pure_ (i := 7) (N := some 150) (v := ?_) (a' := ?_) (bl 26 255) rfl rfl (any_of HT_.out (by kernel_rfl)) (fun _ _ _ h => h) (Or.inl ⟨by rfl, ?_⟩) ?_ ?_
                                         rotate_left
                                         · intro w'
                                           go_simp
                                           with_reducible rfl
                                         rotate_left
                                         · simp only [Act.put, List.setIfInBounds_toArray, List.set_cons_zero, List.set_cons_succ, i64_w, i32_w]
                                           rfl
                                         refine pure_ (i := 8) (N := some 151) (v := ?_) (a' := ?_) (bl 26 511) rfl rfl (any_of HT_.out (by kernel_rfl)) (fun _ _ _ h => h) (Or.inl ⟨by rfl, ?_⟩) ?_ ?_
                                         rotate_left
                                         · intro w'
                                           go_simp
                                           with_reducible rfl
                                         rotate_left
                                         · simp only [Act.put, List.setIfInBounds_toArray, List.set_cons_zero, List.set_cons_succ, i64_w, i32_w]
                                           rfl
                                         refine pure_ (i := 9) (N := some 152) (v := ?_) (a' := ?_) (bl 26 1023) rfl rfl (any_of HT_.out (by kernel_rfl)) (fun _ _ _ h => h) (Or.inl ⟨by rfl, ?_⟩) ?_ ?_
                                         rotate_left
                                         · intro w'
                                           go_simp
                                           with_reducible rfl
                                         rotate_left
                                         · simp only [Act.put, List.setIfInBounds_toArray, List.set_cons_zero, List.set_cons_succ, i64_w, i32_w]
                                           rfl
                                         refine pure_ (i := 11) (N := some 154) (v := ?_) (a' := ?_) (bl 26 3071) rfl rfl (any_of HT_.out (by kernel_rfl)) (fun _ _ _ h => h) (Or.inl ⟨by rfl, ?_⟩) ?_ ?_
                                         rotate_left
                                         · intro w'
                                           go_simp
                                           with_reducible rfl
                                         rotate_left
                                         · simp only [Act.put, List.setIfInBounds_toArray, List.set_cons_zero, List.set_cons_succ, i64_w, i32_w]
                                           rfl
                                         refine pure_ (i := 14) (N := some 157) (v := ?_) (a' := ?_) (bl 26 19455) rfl rfl (any_of HT_.out (by kernel_rfl)) (fun _ _ _ h => h) (Or.inl ⟨by rfl, ?_⟩) ?_ ?_
                                         rotate_left
                                         · intro w'
                                           go_simp
                                           with_reducible rfl
                                         rotate_left
                                         · simp only [Act.put, List.setIfInBounds_toArray, List.set_cons_zero, List.set_cons_succ, i64_w, i32_w]
                                           rfl
                                         refine pure_ (i := 18) (N := some 161) (v := ?_) (a' := ?_) (bl 26 281599) rfl rfl (any_of HT_.out (by kernel_rfl)) (fun _ _ _ h => h) (Or.inl ⟨by rfl, ?_⟩) ?_ ?_
                                         rotate_left
                                         · intro w'
                                           go_simp
                                           with_reducible rfl
                                         rotate_left
                                         · simp only [Act.put, List.setIfInBounds_toArray, List.set_cons_zero, List.set_cons_succ, i64_w, i32_w]
                                           rfl
                                         refine pure_ (i := 19) (N := some 162) (v := ?_) (a' := ?_) (bl 26 805887) rfl rfl (any_of HT_.out (by kernel_rfl)) (fun _ _ _ h => h) (Or.inl ⟨by rfl, ?_⟩) ?_ ?_
                                         rotate_left
                                         · intro w'
                                           go_simp
                                           with_reducible rfl
                                         rotate_left
                                         · simp only [Act.put, List.setIfInBounds_toArray, List.set_cons_zero, List.set_cons_succ, i64_w, i32_w]
                                           rfl
                                         refine pure_ (i := 21) (N := some 164) (v := ?_) (a' := ?_) (bl 26 2903039) rfl rfl (any_of HT_.out (by kernel_rfl)) (fun _ _ _ h => h) (Or.inl ⟨by rfl, ?_⟩) ?_ ?_
                                         rotate_left
                                         · intro w'
                                           go_simp
                                           with_reducible rfl
                                         rotate_left
                                         · simp only [Act.put, List.setIfInBounds_toArray, List.set_cons_zero, List.set_cons_succ, i64_w, i32_w]
                                           rfl
                                         refine take_ (i := 10) (N := some 153) (v := ?_) (a' := ?_) (bl 26 2904063) rfl rfl (take_ofW HT_.out HW_.out (by kernel_rfl)) (fun _ _ _ h => h) (Or.inl ⟨by rfl, ?_⟩) hHeld ?_ ?_
                                         rotate_left
                                         · rintro w' ⟨s0, s1, s2, s3, s4, s5, s6, s7, s8, s9, s10, s11, s12, s13, s14, s15, s16, s17, s18⟩
                                           go_simp
                                           with_reducible rfl
                                         rotate_left
                                         · simp only [Act.put, List.setIfInBounds_toArray, List.set_cons_zero, List.set_cons_succ, i64_w, i32_w]
                                           rfl
                                         refine take_ (i := 13) (N := some 156) (v := ?_) (a' := ?_) (bl 26 2912255) rfl rfl (take_ofW HT_.out HW_.out (by kernel_rfl)) (fun _ _ _ h => h) (Or.inl ⟨by rfl, ?_⟩) hHeld ?_ ?_
                                         rotate_left
                                         · rintro w' ⟨s0, s1, s2, s3, s4, s5, s6, s7, s8, s9, s10, s11, s12, s13, s14, s15, s16, s17, s18⟩
                                           go_simp
                                           with_reducible rfl
                                         rotate_left
                                         · simp only [Act.put, List.setIfInBounds_toArray, List.set_cons_zero, List.set_cons_succ, i64_w, i32_w]
                                           rfl
                                         refine take_ (i := 15) (N := some 158) (v := ?_) (a' := ?_) (bl 26 2945023) rfl rfl (take_ofW HT_.out HW_.out (by kernel_rfl)) (fun _ _ _ h => h) (Or.inl ⟨by rfl, ?_⟩) hHeld ?_ ?_
                                         rotate_left
                                         · rintro w' ⟨s0, s1, s2, s3, s4, s5, s6, s7, s8, s9, s10, s11, s12, s13, s14, s15, s16, s17, s18⟩
                                           go_simp
                                           with_reducible rfl
                                         rotate_left
                                         · simp only [Act.put, List.setIfInBounds_toArray, List.set_cons_zero, List.set_cons_succ, i64_w, i32_w]
                                           rfl
                                         refine take_ (i := 20) (N := some 163) (v := ?_) (a' := ?_) (bl 26 3993599) rfl rfl (take_ofW HT_.out HW_.out (by kernel_rfl)) (fun _ _ _ h => h) (Or.inl ⟨by rfl, ?_⟩) hHeld ?_ ?_
                                         rotate_left
                                         · rintro w' ⟨s0, s1, s2, s3, s4, s5, s6, s7, s8, s9, s10, s11, s12, s13, s14, s15, s16, s17, s18⟩
                                           go_simp
                                           with_reducible rfl
                                         rotate_left
                                         · simp only [Act.put, List.setIfInBounds_toArray, List.set_cons_zero, List.set_cons_succ, i64_w, i32_w]
                                           rfl
                                         refine one_ (i := 12) (N := some 155) (bl 26 3997695) rfl rfl (one_of HT_.out (by kernel_rfl)) (by decide) (fun K hK => ?_)
                                         refine goes_ Try.func36 (by kernel_rfl) rfl #[.slice (some ad144) l1.length c1, .int .i64 ((rd_T24 l1 a2).f3), .int .i64 a2] (by rfl) rfl rfl (by (try simp only [List.map_toArray, List.map_cons, List.map_nil]); first | done | rfl | (simp only [List.length_drop, List.length_take]; rfl)) ?_
                                         with_reducible refine (interlockref07_takings.calls kj75 _ _ l1 ((rd_T24 l1 a2).f3) a2 t154 _ ?side1 ?side2 A127.out).mono ?_
                                         (case side1 => repeat (first | exact (Kd.C_below HR1.out HB.out) | (with_reducible refine Kd.C_alloc ?_ _) | (with_reducible refine Kd.C_drewN ?_ _) | (with_reducible refine Kd.C_drew ?_)))
                                         (case side2 => exact HC1.out)
                                         rintro e w132 ⟨rfl, hb⟩
                                         refine ⟨_, rfl, ?_⟩
                                         have n0_ := Aside0.mk (blk_below (g := gb143) (o := .cells #[.int .i64 a0_0, .int .i64 a0_1, .int .i64 a0_2, .slice A0_3 l0_3.length c0_3, .int .i64 a0_4, .int .i64 a0_5, .slice A0_6 l0_6.length c0_6] 30 (0, 0)) (by (with_reducible repeat (first | refine blk_drewN ?_ _ | refine blk_drew ?_ | refine blk_alloc ?_ _)); exact BK143.out) hb)
                                         have n1_ := Aside0.mk (blk_below (g := gb145) (o := .cells #[.int .i64 ((rd_T24 l1 a2).f0), .int .i64 ((rd_T24 l1 a2).f1), .int .u8 ((rd_T24 l1 a2).f2), .int .i64 ((rd_T24 l1 a2).f3), .int .i64 ((rd_T24 l1 a2).f4), .int .i64 ((rd_T24 l1 a2).f5)] 24 (0, 0)) (by (with_reducible repeat (first | refine blk_drewN ?_ _ | refine blk_drew ?_ | refine blk_alloc ?_ _)); exact BK145.out) hb)
                                         have n2_ := Aside0.mk (blk_below (g := gb147) (o := .cells #[.int .i64 ((rd_T24 l1 a3).f0), .int .i64 ((rd_T24 l1 a3).f1), .int .u8 ((rd_T24 l1 a3).f2), .int .i64 ((rd_T24 l1 a3).f3), .int .i64 ((rd_T24 l1 a3).f4), .int .i64 ((rd_T24 l1 a3).f5)] 24 (0, 0)) (by (with_reducible repeat (first | refine blk_drewN ?_ _ | refine blk_drew ?_ | refine blk_alloc ?_ _)); exact BK147.out) hb)
                                         have n3_ := Aside0.mk (below_step (by repeat (first | (with_reducible first | exact HB.out | apply below_alloc | apply pw_below_drewN | apply below_drew1 | refine below_set ?_ GE143.out | refine below_set ?_ GE145.out | refine below_set ?_ GE147.out) | exact HB.out)) hb)
                                         clear BK143
                                         clear BK145
                                         clear BK147
                                         clear HB
                                         have BK143 := n0_
                                         have BK145 := n1_
                                         have BK147 := n2_
                                         have HB := n3_
                                         clear n0_ n1_ n2_ n3_
                                         (try clear hb)
                                         (try clear hb2)
                                         (try clear hk)
                                         (try clear hi)
                                         refine hK.out _ _ ⟨(blk_cell BK145.out 0).trans rfl, (blk_cell BK145.out 1).trans rfl, (blk_cell BK145.out 2).trans rfl, (blk_cell BK145.out 3).trans rfl, (blk_cell BK145.out 4).trans rfl, (blk_cell BK145.out 5).trans rfl, (blk_cell BK147.out 0).trans rfl, (blk_cell BK147.out 1).trans rfl, (blk_cell BK147.out 2).trans rfl, (blk_cell BK147.out 3).trans rfl, (blk_cell BK147.out 4).trans rfl, (blk_cell BK147.out 5).trans rfl, (blk_cell BK143.out 0).trans rfl, (blk_cell BK143.out 1).trans rfl, (blk_cell BK143.out 2).trans rfl, (blk_cell BK143.out 3).trans rfl, (blk_cell BK143.out 4).trans rfl, (blk_cell BK143.out 5).trans rfl, (blk_cell BK143.out 6).trans rfl⟩ (fun hHeld => ?_)
                                         clear hK K
                                         refine norm_ (a' := ?_) ?_ ?_
                                         rotate_left
                                         · show Act.put _ (some 155) _ = _
                                           simp only [Act.put, List.setIfInBounds_toArray, List.set_cons_zero, List.set_cons_succ, i64_w, i32_w]
                                           rfl
                                         refine one_ (i := 16) (N := some 159) (bl 26 4063231) rfl rfl (one_of HT_.out (by kernel_rfl)) (by decide) (fun K hK => ?_)
                                         refine goes_ Try.func37 (by kernel_rfl) rfl #[.agg #[.int .i64 a0_0, .int .i64 a0_1, .int .i64 a0_2, .slice A0_3 l0_3.length c0_3, .int .i64 a0_4, .int .i64 a0_5, .slice A0_6 l0_6.length c0_6], .int .i64 ((rd_T24 l1 a2).f3)] (by rfl) rfl rfl (by (try simp only [List.map_toArray, List.map_cons, List.map_nil]); first | done | rfl | (simp only [List.length_drop, List.length_take]; rfl)) ?_
                                         with_reducible refine (interlockref07_room.calls a0_0 a0_1 a0_2 _ _ l0_3 a0_4 a0_5 _ _ l0_6 ((rd_T24 l1 a2).f3) t155 _ ?side1 ?side2 ?side3 ?side4 A128.out).mono ?_
                                         (case side1 => repeat (first | exact (Kd.C_below HR0_3.out HB.out) | (with_reducible refine Kd.C_alloc ?_ _) | (with_reducible refine Kd.C_drewN ?_ _) | (with_reducible refine Kd.C_drew ?_)))
                                         (case side2 => exact HC0_3.out)
                                         (case side3 => repeat (first | exact (Kd.C_below HR0_6.out HB.out) | (with_reducible refine Kd.C_alloc ?_ _) | (with_reducible refine Kd.C_drewN ?_ _) | (with_reducible refine Kd.C_drew ?_)))
                                         (case side4 => exact HC0_6.out)
                                         rintro e w133 ⟨rfl, hb⟩
                                         refine ⟨_, rfl, ?_⟩
                                         have n0_ := Aside0.mk (blk_below (g := gb143) (o := .cells #[.int .i64 a0_0, .int .i64 a0_1, .int .i64 a0_2, .slice A0_3 l0_3.length c0_3, .int .i64 a0_4, .int .i64 a0_5, .slice A0_6 l0_6.length c0_6] 30 (0, 0)) (by (with_reducible repeat (first | refine blk_drewN ?_ _ | refine blk_drew ?_ | refine blk_alloc ?_ _)); exact BK143.out) hb)
                                         have n1_ := Aside0.mk (blk_below (g := gb145) (o := .cells #[.int .i64 ((rd_T24 l1 a2).f0), .int .i64 ((rd_T24 l1 a2).f1), .int .u8 ((rd_T24 l1 a2).f2), .int .i64 ((rd_T24 l1 a2).f3), .int .i64 ((rd_T24 l1 a2).f4), .int .i64 ((rd_T24 l1 a2).f5)] 24 (0, 0)) (by (with_reducible repeat (first | refine blk_drewN ?_ _ | refine blk_drew ?_ | refine blk_alloc ?_ _)); exact BK145.out) hb)
                                         have n2_ := Aside0.mk (blk_below (g := gb147) (o := .cells #[.int .i64 ((rd_T24 l1 a3).f0), .int .i64 ((rd_T24 l1 a3).f1), .int .u8 ((rd_T24 l1 a3).f2), .int .i64 ((rd_T24 l1 a3).f3), .int .i64 ((rd_T24 l1 a3).f4), .int .i64 ((rd_T24 l1 a3).f5)] 24 (0, 0)) (by (with_reducible repeat (first | refine blk_drewN ?_ _ | refine blk_drew ?_ | refine blk_alloc ?_ _)); exact BK147.out) hb)
                                         have n3_ := Aside0.mk (below_step (by repeat (first | (with_reducible first | exact HB.out | apply below_alloc | apply pw_below_drewN | apply below_drew1 | refine below_set ?_ GE143.out | refine below_set ?_ GE145.out | refine below_set ?_ GE147.out) | exact HB.out)) hb)
                                         clear BK143
                                         clear BK145
                                         clear BK147
                                         clear HB
                                         have BK143 := n0_
                                         have BK145 := n1_
                                         have BK147 := n2_
                                         have HB := n3_
                                         clear n0_ n1_ n2_ n3_
                                         (try clear hb)
                                         (try clear hb2)
                                         (try clear hk)
                                         (try clear hi)
                                         refine hK.out _ _ ⟨(blk_cell BK145.out 0).trans rfl, (blk_cell BK145.out 1).trans rfl, (blk_cell BK145.out 2).trans rfl, (blk_cell BK145.out 3).trans rfl, (blk_cell BK145.out 4).trans rfl, (blk_cell BK145.out 5).trans rfl, (blk_cell BK147.out 0).trans rfl, (blk_cell BK147.out 1).trans rfl, (blk_cell BK147.out 2).trans rfl, (blk_cell BK147.out 3).trans rfl, (blk_cell BK147.out 4).trans rfl, (blk_cell BK147.out 5).trans rfl, (blk_cell BK143.out 0).trans rfl, (blk_cell BK143.out 1).trans rfl, (blk_cell BK143.out 2).trans rfl, (blk_cell BK143.out 3).trans rfl, (blk_cell BK143.out 4).trans rfl, (blk_cell BK143.out 5).trans rfl, (blk_cell BK143.out 6).trans rfl⟩ (fun hHeld => ?_)
                                         clear hK K
                                         refine norm_ (a' := ?_) ?_ ?_
                                         rotate_left
                                         · show Act.put _ (some 159) _ = _
                                           simp only [Act.put, List.setIfInBounds_toArray, List.set_cons_zero, List.set_cons_succ, i64_w, i32_w]
                                           rfl
                                         refine pure_ (i := 17) (N := some 160) (v := ?_) (a' := ?_) (bl 26 4194303) rfl rfl (any_of HT_.out (by kernel_rfl)) (fun _ _ _ h => h) (Or.inl ⟨by rfl, ?_⟩) ?_ ?_
                                         rotate_left
                                         · intro w'
                                           go_simp
                                           with_reducible rfl
                                         rotate_left
                                         · simp only [Act.put, List.setIfInBounds_toArray, List.set_cons_zero, List.set_cons_succ, i64_w, i32_w]
                                           rfl
                                         refine one_ (i := 22) (N := some 165) (bl 26 8388607) rfl rfl (one_of HT_.out (by kernel_rfl)) (by decide) (fun K hK => ?_)
                                         refine goes_ Try.func35 (by kernel_rfl) rfl #[.slice (some ad144) l1.length c1, .int .i64 ((rd_T24 l1 a2).f3), .int .i64 a3] (by rfl) rfl rfl (by (try simp only [List.map_toArray, List.map_cons, List.map_nil]); first | done | rfl | (simp only [List.length_drop, List.length_take]; rfl)) ?_
                                         with_reducible refine (interlockref07_sends.calls kj75 _ _ l1 ((rd_T24 l1 a2).f3) a3 t156 _ ?side1 ?side2 A129.out).mono ?_
                                         (case side1 => repeat (first | exact (Kd.C_below HR1.out HB.out) | (with_reducible refine Kd.C_alloc ?_ _) | (with_reducible refine Kd.C_drewN ?_ _) | (with_reducible refine Kd.C_drew ?_)))
                                         (case side2 => exact HC1.out)
                                         rintro e w' ⟨rfl, ⟨nd, rfl⟩⟩
                                         refine ⟨_, rfl, ?_⟩
                                         refine hK.out _ _ ⟨(blk_cell BK145.out 0).trans rfl, (blk_cell BK145.out 1).trans rfl, (blk_cell BK145.out 2).trans rfl, (blk_cell BK145.out 3).trans rfl, (blk_cell BK145.out 4).trans rfl, (blk_cell BK145.out 5).trans rfl, (blk_cell BK147.out 0).trans rfl, (blk_cell BK147.out 1).trans rfl, (blk_cell BK147.out 2).trans rfl, (blk_cell BK147.out 3).trans rfl, (blk_cell BK147.out 4).trans rfl, (blk_cell BK147.out 5).trans rfl, (blk_cell BK143.out 0).trans rfl, (blk_cell BK143.out 1).trans rfl, (blk_cell BK143.out 2).trans rfl, (blk_cell BK143.out 3).trans rfl, (blk_cell BK143.out 4).trans rfl, (blk_cell BK143.out 5).trans rfl, (blk_cell BK143.out 6).trans rfl⟩ (fun hHeld => ?_)
                                         clear hK K
                                         refine norm_ (a' := ?_) ?_ ?_
                                         rotate_left
                                         · show Act.put _ (some 165) _ = _
                                           simp only [Act.put, List.setIfInBounds_toArray, List.set_cons_zero, List.set_cons_succ, i64_w, i32_w]
                                           rfl
                                         refine pure_ (i := 23) (N := some 166) (v := ?_) (a' := ?_) (bl 26 16777215) rfl rfl (any_of HT_.out (by kernel_rfl)) (fun _ _ _ h => h) (Or.inl ⟨by rfl, ?_⟩) ?_ ?_
                                         rotate_left
                                         · intro w'
                                           go_simp
                                           with_reducible rfl
                                         rotate_left
                                         · simp only [Act.put, List.setIfInBounds_toArray, List.set_cons_zero, List.set_cons_succ, i64_w, i32_w]
                                           rfl
                                         refine pure_ (i := 24) (N := some 167) (v := ?_) (a' := ?_) (bl 26 33554431) rfl rfl (any_of HT_.out (by kernel_rfl)) (fun _ _ _ h => h) (Or.inl ⟨by rfl, ?_⟩) ?_ ?_
                                         rotate_left
                                         · intro w'
                                           go_simp
                                           with_reducible rfl
                                         rotate_left
                                         · simp only [Act.put, List.setIfInBounds_toArray, List.set_cons_zero, List.set_cons_succ, i64_w, i32_w]
                                           rfl
                                         refine pure_ (i := 25) (N := some 8) (v := ?_) (a' := ?_) (bl 26 67108863) rfl rfl (any_of HT_.out (by kernel_rfl)) (fun _ _ _ h => h) (Or.inl ⟨by rfl, ?_⟩) ?_ ?_
                                         rotate_left
                                         · intro w'
                                           go_simp
                                           with_reducible rfl
                                         rotate_left
                                         · simp only [Act.put, List.setIfInBounds_toArray, List.set_cons_zero, List.set_cons_succ, i64_w, i32_w]
                                           rfl
                                         refine done_ (done_of HT_.out (by kernel_rfl)) ?_
                                         try go_wp2
                                         go_ret
                                         exact ⟨by first | rfl | (simp [errW_none, errW_some] <;> rfl) | (simp [*, errW_none, errW_some] <;> rfl), by repeat (first | (with_reducible first | exact HB.out | apply below_alloc | apply pw_below_drewN | apply below_drew1 | refine below_set ?_ GE143.out | refine below_set ?_ GE145.out | refine below_set ?_ GE147.out) | exact HB.out)⟩
                                       · rw [if_neg c126] at H
                                         have c126b0 : (((rd_T24 l1 a3).f2) == 20) = false := beq_eq_false_iff_ne.mpr c126
                                         have c126b1 : (((rd_T24 l1 a3).f2) != 20) = true := bne_iff_ne.mpr c126
                                         obtain rfl := Option.some.inj H
                                         try go_wp2
                                         have n0_ := Aside0.mk (blk_drew BK143.out)
                                         have n1_ := Aside0.mk (blk_drew BK145.out)
                                         have n2_ := Aside0.mk (blk_drew BK147.out)
                                         have n3_ := Aside0.mk (below_drew1 HB.out)
                                         clear BK143
                                         clear BK145
                                         clear BK147
                                         clear HB
                                         have BK143 := n0_
                                         have BK145 := n1_
                                         have BK147 := n2_
                                         have HB := n3_
                                         clear n0_ n1_ n2_ n3_
                                         refine start_ (n := 26) (S := fun w' => w'.cell? ⟨gb145, 0, none⟩ = some (.int .i64 ((rd_T24 l1 a2).f0)) ∧ w'.cell? ⟨gb145, 1, none⟩ = some (.int .i64 ((rd_T24 l1 a2).f1)) ∧ w'.cell? ⟨gb145, 2, none⟩ = some (.int .u8 ((rd_T24 l1 a2).f2)) ∧ w'.cell? ⟨gb145, 3, none⟩ = some (.int .i64 ((rd_T24 l1 a2).f3)) ∧ w'.cell? ⟨gb145, 4, none⟩ = some (.int .i64 ((rd_T24 l1 a2).f4)) ∧ w'.cell? ⟨gb145, 5, none⟩ = some (.int .i64 ((rd_T24 l1 a2).f5)) ∧ w'.cell? ⟨gb147, 0, none⟩ = some (.int .i64 ((rd_T24 l1 a3).f0)) ∧ w'.cell? ⟨gb147, 1, none⟩ = some (.int .i64 ((rd_T24 l1 a3).f1)) ∧ w'.cell? ⟨gb147, 2, none⟩ = some (.int .u8 ((rd_T24 l1 a3).f2)) ∧ w'.cell? ⟨gb147, 3, none⟩ = some (.int .i64 ((rd_T24 l1 a3).f3)) ∧ w'.cell? ⟨gb147, 4, none⟩ = some (.int .i64 ((rd_T24 l1 a3).f4)) ∧ w'.cell? ⟨gb147, 5, none⟩ = some (.int .i64 ((rd_T24 l1 a3).f5))) (ds := []) (bl 26 0) (by kernel_rfl) rfl rfl ⟨(blk_cell BK145.out 0).trans rfl, (blk_cell BK145.out 1).trans rfl, (blk_cell BK145.out 2).trans rfl, (blk_cell BK145.out 3).trans rfl, (blk_cell BK145.out 4).trans rfl, (blk_cell BK145.out 5).trans rfl, (blk_cell BK147.out 0).trans rfl, (blk_cell BK147.out 1).trans rfl, (blk_cell BK147.out 2).trans rfl, (blk_cell BK147.out 3).trans rfl, (blk_cell BK147.out 4).trans rfl, (blk_cell BK147.out 5).trans rfl⟩ (fun hHeld => ?_); refine with_tabW interlockref07_Direct.tab26 interlockref07_Direct.bits26 (fun HT_ HW_ => ?_)
                                         generalize wc.drew = w134 at BK143 BK145 BK147 HB hHeld ⊢
                                         refine take_ (i := 0) (N := some 143) (v := ?_) (a' := ?_) (bl 26 1) rfl rfl (take_ofW HT_.out HW_.out (by kernel_rfl)) (fun _ _ _ h => h) (Or.inl ⟨by rfl, ?_⟩) hHeld ?_ ?_
                                         rotate_left
                                         · rintro w' ⟨s0, s1, s2, s3, s4, s5, s6, s7, s8, s9, s10, s11⟩
                                           go_simp
                                           with_reducible rfl
                                         rotate_left
                                         · simp only [Act.put, List.setIfInBounds_toArray, List.set_cons_zero, List.set_cons_succ, i64_w, i32_w]
                                           rfl
                                         refine one_ (i := 1) (N := some 144) (bl 26 3) rfl rfl (one_of HT_.out (by kernel_rfl)) (by decide) (fun K hK => ?_)
                                         refine goes_ Try.func34 (by kernel_rfl) rfl #[.agg #[.int .i64 ((rd_T24 l1 a2).f0), .int .i64 ((rd_T24 l1 a2).f1), .int .u8 ((rd_T24 l1 a2).f2), .int .i64 ((rd_T24 l1 a2).f3), .int .i64 ((rd_T24 l1 a2).f4), .int .i64 ((rd_T24 l1 a2).f5)]] (by rfl) rfl rfl (by (try simp only [List.map_toArray, List.map_cons, List.map_nil]); first | done | rfl | (simp only [List.length_drop, List.length_take]; rfl)) ?_
                                         with_reducible refine (interlockref07_taking.calls ((rd_T24 l1 a2).f0) ((rd_T24 l1 a2).f1) ((rd_T24 l1 a2).f2) ((rd_T24 l1 a2).f3) ((rd_T24 l1 a2).f4) ((rd_T24 l1 a2).f5) true _ A124.out).mono ?_
                                         rintro e w135 ⟨rfl, hb⟩
                                         refine ⟨_, rfl, ?_⟩
                                         have n0_ := Aside0.mk (blk_below (g := gb143) (o := .cells #[.int .i64 a0_0, .int .i64 a0_1, .int .i64 a0_2, .slice A0_3 l0_3.length c0_3, .int .i64 a0_4, .int .i64 a0_5, .slice A0_6 l0_6.length c0_6] 30 (0, 0)) (by (with_reducible repeat (first | refine blk_drewN ?_ _ | refine blk_drew ?_ | refine blk_alloc ?_ _)); exact BK143.out) hb)
                                         have n1_ := Aside0.mk (blk_below (g := gb145) (o := .cells #[.int .i64 ((rd_T24 l1 a2).f0), .int .i64 ((rd_T24 l1 a2).f1), .int .u8 ((rd_T24 l1 a2).f2), .int .i64 ((rd_T24 l1 a2).f3), .int .i64 ((rd_T24 l1 a2).f4), .int .i64 ((rd_T24 l1 a2).f5)] 24 (0, 0)) (by (with_reducible repeat (first | refine blk_drewN ?_ _ | refine blk_drew ?_ | refine blk_alloc ?_ _)); exact BK145.out) hb)
                                         have n2_ := Aside0.mk (blk_below (g := gb147) (o := .cells #[.int .i64 ((rd_T24 l1 a3).f0), .int .i64 ((rd_T24 l1 a3).f1), .int .u8 ((rd_T24 l1 a3).f2), .int .i64 ((rd_T24 l1 a3).f3), .int .i64 ((rd_T24 l1 a3).f4), .int .i64 ((rd_T24 l1 a3).f5)] 24 (0, 0)) (by (with_reducible repeat (first | refine blk_drewN ?_ _ | refine blk_drew ?_ | refine blk_alloc ?_ _)); exact BK147.out) hb)
                                         have n3_ := Aside0.mk (below_step (by repeat (first | (with_reducible first | exact HB.out | apply below_alloc | apply pw_below_drewN | apply below_drew1 | refine below_set ?_ GE143.out | refine below_set ?_ GE145.out | refine below_set ?_ GE147.out) | exact HB.out)) hb)
                                         clear BK143
                                         clear BK145
                                         clear BK147
                                         clear HB
                                         have BK143 := n0_
                                         have BK145 := n1_
                                         have BK147 := n2_
                                         have HB := n3_
                                         clear n0_ n1_ n2_ n3_
                                         (try clear hb)
                                         (try clear hb2)
                                         (try clear hk)
                                         (try clear hi)
                                         refine hK.out _ _ ⟨(blk_cell BK145.out 0).trans rfl, (blk_cell BK145.out 1).trans rfl, (blk_cell BK145.out 2).trans rfl, (blk_cell BK145.out 3).trans rfl, (blk_cell BK145.out 4).trans rfl, (blk_cell BK145.out 5).trans rfl, (blk_cell BK147.out 0).trans rfl, (blk_cell BK147.out 1).trans rfl, (blk_cell BK147.out 2).trans rfl, (blk_cell BK147.out 3).trans rfl, (blk_cell BK147.out 4).trans rfl, (blk_cell BK147.out 5).trans rfl⟩ (fun hHeld => ?_)
                                         clear hK K
                                         refine norm_ (a' := ?_) ?_ ?_
                                         rotate_left
                                         · show Act.put _ (some 144) _ = _
                                           simp only [Act.put, List.setIfInBounds_toArray, List.set_cons_zero, List.set_cons_succ, i64_w, i32_w]
                                           rfl
                                         refine pure_ (i := 2) (N := some 145) (v := ?_) (a' := ?_) (bl 26 7) rfl rfl (any_of HT_.out (by kernel_rfl)) (fun _ _ _ h => h) (Or.inl ⟨by rfl, ?_⟩) ?_ ?_
                                         rotate_left
                                         · intro w'
                                           go_simp
                                           with_reducible rfl
                                         rotate_left
                                         · simp only [Act.put, List.setIfInBounds_toArray, List.set_cons_zero, List.set_cons_succ, i64_w, i32_w]
                                           rfl
                                         refine pure_ (i := 3) (N := some 146) (v := ?_) (a' := ?_) (bl 26 15) rfl rfl (any_of HT_.out (by kernel_rfl)) (fun _ _ _ h => h) (Or.inl ⟨by rfl, ?_⟩) ?_ ?_
                                         rotate_left
                                         · intro w'
                                           go_simp
                                           with_reducible rfl
                                         rotate_left
                                         · simp only [Act.put, List.setIfInBounds_toArray, List.set_cons_zero, List.set_cons_succ, i64_w, i32_w]
                                           rfl
                                         refine take_ (i := 4) (N := some 147) (v := ?_) (a' := ?_) (bl 26 31) rfl rfl (take_ofW HT_.out HW_.out (by kernel_rfl)) (fun _ _ _ h => h) (Or.inl ⟨by rfl, ?_⟩) hHeld ?_ ?_
                                         rotate_left
                                         · rintro w' ⟨s0, s1, s2, s3, s4, s5, s6, s7, s8, s9, s10, s11⟩
                                           go_simp
                                           with_reducible rfl
                                         rotate_left
                                         · simp only [Act.put, List.setIfInBounds_toArray, List.set_cons_zero, List.set_cons_succ, i64_w, i32_w]
                                           rfl
                                         refine pure_ (i := 5) (N := some 148) (v := ?_) (a' := ?_) (bl 26 63) rfl rfl (any_of HT_.out (by kernel_rfl)) (fun _ _ _ h => h) (Or.inl ⟨by rfl, ?_⟩) ?_ ?_
                                         rotate_left
                                         · intro w'
                                           go_simp
                                           with_reducible rfl
                                         rotate_left
                                         · simp only [Act.put, List.setIfInBounds_toArray, List.set_cons_zero, List.set_cons_succ, i64_w, i32_w]
                                           rfl
                                         refine pure_ (i := 6) (N := some 149) (v := ?_) (a' := ?_) (bl 26 127) rfl rfl (any_of HT_.out (by kernel_rfl)) (fun _ _ _ h => h) (Or.inl ⟨by rfl, ?_⟩) ?_ ?_
                                         rotate_left
                                         · intro w'
                                           go_simp
                                           with_reducible rfl
                                         rotate_left
                                         · simp only [Act.put, List.setIfInBounds_toArray, List.set_cons_zero, List.set_cons_succ, i64_w, i32_w]
                                           rfl
                                         refine pure_ (i := 7) (N := some 150) (v := ?_) (a' := ?_) (bl 26 255) rfl rfl (any_of HT_.out (by kernel_rfl)) (fun _ _ _ h => h) (Or.inl ⟨by rfl, ?_⟩) ?_ ?_
                                         rotate_left
                                         · intro w'
                                           go_simp
                                           with_reducible rfl
                                         rotate_left
                                         · simp only [Act.put, List.setIfInBounds_toArray, List.set_cons_zero, List.set_cons_succ, i64_w, i32_w]
                                           rfl
                                         refine pure_ (i := 8) (N := some 151) (v := undef) (a' := ?_) (bl 26 511) rfl rfl (any_of HT_.out (by kernel_rfl)) (fun _ _ _ h => h) (Or.inr ⟨by rfl, rfl⟩) ?_ ?_
                                         rotate_left
                                         · simp only [Act.put, List.setIfInBounds_toArray, List.set_cons_zero, List.set_cons_succ, i64_w, i32_w]
                                           rfl
                                         refine pure_ (i := 9) (N := some 152) (v := undef) (a' := ?_) (bl 26 1023) rfl rfl (any_of HT_.out (by kernel_rfl)) (fun _ _ _ h => h) (Or.inr ⟨by rfl, rfl⟩) ?_ ?_
                                         rotate_left
                                         · simp only [Act.put, List.setIfInBounds_toArray, List.set_cons_zero, List.set_cons_succ, i64_w, i32_w]
                                           rfl
                                         refine pure_ (i := 10) (N := some 153) (v := undef) (a' := ?_) (bl 26 2047) rfl rfl (any_of HT_.out (by kernel_rfl)) (fun _ _ _ h => h) (Or.inr ⟨by rfl, rfl⟩) ?_ ?_
                                         rotate_left
                                         · simp only [Act.put, List.setIfInBounds_toArray, List.set_cons_zero, List.set_cons_succ, i64_w, i32_w]
                                           rfl
                                         refine pure_ (i := 11) (N := some 154) (v := undef) (a' := ?_) (bl 26 4095) rfl rfl (any_of HT_.out (by kernel_rfl)) (fun _ _ _ h => h) (Or.inr ⟨by rfl, rfl⟩) ?_ ?_
                                         rotate_left
                                         · simp only [Act.put, List.setIfInBounds_toArray, List.set_cons_zero, List.set_cons_succ, i64_w, i32_w]
                                           rfl
                                         refine pure_ (i := 12) (N := some 155) (v := undef) (a' := ?_) (bl 26 8191) rfl rfl (any_of HT_.out (by kernel_rfl)) (fun _ _ _ h => h) (Or.inr ⟨by rfl, rfl⟩) ?_ ?_
                                         rotate_left
                                         · simp only [Act.put, List.setIfInBounds_toArray, List.set_cons_zero, List.set_cons_succ, i64_w, i32_w]
                                           rfl
                                         refine pure_ (i := 13) (N := some 156) (v := undef) (a' := ?_) (bl 26 16383) rfl rfl (any_of HT_.out (by kernel_rfl)) (fun _ _ _ h => h) (Or.inr ⟨by rfl, rfl⟩) ?_ ?_
                                         rotate_left
                                         · simp only [Act.put, List.setIfInBounds_toArray, List.set_cons_zero, List.set_cons_succ, i64_w, i32_w]
                                           rfl
                                         refine pure_ (i := 14) (N := some 157) (v := undef) (a' := ?_) (bl 26 32767) rfl rfl (any_of HT_.out (by kernel_rfl)) (fun _ _ _ h => h) (Or.inr ⟨by rfl, rfl⟩) ?_ ?_
                                         rotate_left
                                         · simp only [Act.put, List.setIfInBounds_toArray, List.set_cons_zero, List.set_cons_succ, i64_w, i32_w]
                                           rfl
                                         refine pure_ (i := 15) (N := some 158) (v := undef) (a' := ?_) (bl 26 65535) rfl rfl (any_of HT_.out (by kernel_rfl)) (fun _ _ _ h => h) (Or.inr ⟨by rfl, rfl⟩) ?_ ?_
                                         rotate_left
                                         · simp only [Act.put, List.setIfInBounds_toArray, List.set_cons_zero, List.set_cons_succ, i64_w, i32_w]
                                           rfl
                                         refine pure_ (i := 16) (N := some 159) (v := undef) (a' := ?_) (bl 26 131071) rfl rfl (any_of HT_.out (by kernel_rfl)) (fun _ _ _ h => h) (Or.inr ⟨by rfl, rfl⟩) ?_ ?_
                                         rotate_left
                                         · simp only [Act.put, List.setIfInBounds_toArray, List.set_cons_zero, List.set_cons_succ, i64_w, i32_w]
                                           rfl
                                         refine pure_ (i := 17) (N := some 160) (v := undef) (a' := ?_) (bl 26 262143) rfl rfl (any_of HT_.out (by kernel_rfl)) (fun _ _ _ h => h) (Or.inr ⟨by rfl, rfl⟩) ?_ ?_
                                         rotate_left
                                         · simp only [Act.put, List.setIfInBounds_toArray, List.set_cons_zero, List.set_cons_succ, i64_w, i32_w]
                                           rfl
                                         refine pure_ (i := 18) (N := some 161) (v := undef) (a' := ?_) (bl 26 524287) rfl rfl (any_of HT_.out (by kernel_rfl)) (fun _ _ _ h => h) (Or.inr ⟨by rfl, rfl⟩) ?_ ?_
                                         rotate_left
                                         · simp only [Act.put, List.setIfInBounds_toArray, List.set_cons_zero, List.set_cons_succ, i64_w, i32_w]
                                           rfl
                                         refine pure_ (i := 19) (N := some 162) (v := undef) (a' := ?_) (bl 26 1048575) rfl rfl (any_of HT_.out (by kernel_rfl)) (fun _ _ _ h => h) (Or.inr ⟨by rfl, rfl⟩) ?_ ?_
                                         rotate_left
                                         · simp only [Act.put, List.setIfInBounds_toArray, List.set_cons_zero, List.set_cons_succ, i64_w, i32_w]
                                           rfl
                                         refine pure_ (i := 20) (N := some 163) (v := undef) (a' := ?_) (bl 26 2097151) rfl rfl (any_of HT_.out (by kernel_rfl)) (fun _ _ _ h => h) (Or.inr ⟨by rfl, rfl⟩) ?_ ?_
                                         rotate_left
                                         · simp only [Act.put, List.setIfInBounds_toArray, List.set_cons_zero, List.set_cons_succ, i64_w, i32_w]
                                           rfl
                                         refine pure_ (i := 21) (N := some 164) (v := undef) (a' := ?_) (bl 26 4194303) rfl rfl (any_of HT_.out (by kernel_rfl)) (fun _ _ _ h => h) (Or.inr ⟨by rfl, rfl⟩) ?_ ?_
                                         rotate_left
                                         · simp only [Act.put, List.setIfInBounds_toArray, List.set_cons_zero, List.set_cons_succ, i64_w, i32_w]
                                           rfl
                                         refine pure_ (i := 22) (N := some 165) (v := undef) (a' := ?_) (bl 26 8388607) rfl rfl (any_of HT_.out (by kernel_rfl)) (fun _ _ _ h => h) (Or.inr ⟨by rfl, rfl⟩) ?_ ?_
                                         rotate_left
                                         · simp only [Act.put, List.setIfInBounds_toArray, List.set_cons_zero, List.set_cons_succ, i64_w, i32_w]
                                           rfl
                                         refine pure_ (i := 23) (N := some 166) (v := undef) (a' := ?_) (bl 26 16777215) rfl rfl (any_of HT_.out (by kernel_rfl)) (fun _ _ _ h => h) (Or.inr ⟨by rfl, rfl⟩) ?_ ?_
                                         rotate_left
                                         · simp only [Act.put, List.setIfInBounds_toArray, List.set_cons_zero, List.set_cons_succ, i64_w, i32_w]
                                           rfl
                                         refine pure_ (i := 24) (N := some 167) (v := ?_) (a' := ?_) (bl 26 33554431) rfl rfl (any_of HT_.out (by kernel_rfl)) (fun _ _ _ h => h) (Or.inl ⟨by rfl, ?_⟩) ?_ ?_
                                         rotate_left
                                         · intro w'
                                           go_simp
                                           with_reducible rfl
                                         rotate_left
                                         · simp only [Act.put, List.setIfInBounds_toArray, List.set_cons_zero, List.set_cons_succ, i64_w, i32_w]
                                           rfl
                                         refine pure_ (i := 25) (N := some 8) (v := ?_) (a' := ?_) (bl 26 67108863) rfl rfl (any_of HT_.out (by kernel_rfl)) (fun _ _ _ h => h) (Or.inl ⟨by rfl, ?_⟩) ?_ ?_
                                         rotate_left
                                         · intro w'
                                           go_simp
                                           with_reducible rfl
                                         rotate_left
                                         · simp only [Act.put, List.setIfInBounds_toArray, List.set_cons_zero, List.set_cons_succ, i64_w, i32_w]
                                           rfl
                                         refine done_ (done_of HT_.out (by kernel_rfl)) ?_
                                         try go_wp2
                                         go_ret
                                         exact ⟨by first | rfl | (simp [errW_none, errW_some] <;> rfl) | (simp [*, errW_none, errW_some] <;> rfl), by repeat (first | (with_reducible first | exact HB.out | apply below_alloc | apply pw_below_drewN | apply below_drew1 | refine below_set ?_ GE143.out | refine below_set ?_ GE145.out | refine below_set ?_ GE147.out) | exact HB.out)⟩
                                     · replace c125 := Bool.eq_false_iff.mpr c125
                                       subst c125
                                       have H1 : (some false) = some r := by rw [if_neg (show ¬ (false = true) by decide)] at H; exact H
                                       clear H
                                       have H := H1
                                       clear H1
                                       obtain rfl := Option.some.inj H
                                       try go_wp2
                                       have n0_ := Aside0.mk (blk_drew BK143.out)
                                       have n1_ := Aside0.mk (blk_drew BK145.out)
                                       have n2_ := Aside0.mk (blk_drew BK147.out)
                                       have n3_ := Aside0.mk (below_drew1 HB.out)
                                       clear BK143
                                       clear BK145
                                       clear BK147
                                       clear HB
                                       have BK143 := n0_
                                       have BK145 := n1_
                                       have BK147 := n2_
                                       have HB := n3_
                                       clear n0_ n1_ n2_ n3_
                                       refine start_ (n := 26) (S := fun w' => w'.cell? ⟨gb145, 0, none⟩ = some (.int .i64 ((rd_T24 l1 a2).f0)) ∧ w'.cell? ⟨gb145, 1, none⟩ = some (.int .i64 ((rd_T24 l1 a2).f1)) ∧ w'.cell? ⟨gb145, 2, none⟩ = some (.int .u8 ((rd_T24 l1 a2).f2)) ∧ w'.cell? ⟨gb145, 3, none⟩ = some (.int .i64 ((rd_T24 l1 a2).f3)) ∧ w'.cell? ⟨gb145, 4, none⟩ = some (.int .i64 ((rd_T24 l1 a2).f4)) ∧ w'.cell? ⟨gb145, 5, none⟩ = some (.int .i64 ((rd_T24 l1 a2).f5))) (ds := []) (bl 26 0) (by kernel_rfl) rfl rfl ⟨(blk_cell BK145.out 0).trans rfl, (blk_cell BK145.out 1).trans rfl, (blk_cell BK145.out 2).trans rfl, (blk_cell BK145.out 3).trans rfl, (blk_cell BK145.out 4).trans rfl, (blk_cell BK145.out 5).trans rfl⟩ (fun hHeld => ?_); refine with_tabW interlockref07_Direct.tab26 interlockref07_Direct.bits26 (fun HT_ HW_ => ?_)
                                       generalize wc.drew = w136 at BK143 BK145 BK147 HB hHeld ⊢
                                       refine take_ (i := 0) (N := some 143) (v := ?_) (a' := ?_) (bl 26 1) rfl rfl (take_ofW HT_.out HW_.out (by kernel_rfl)) (fun _ _ _ h => h) (Or.inl ⟨by rfl, ?_⟩) hHeld ?_ ?_
                                       rotate_left
                                       · rintro w' ⟨s0, s1, s2, s3, s4, s5⟩
                                         go_simp
                                         with_reducible rfl
                                       rotate_left
                                       · simp only [Act.put, List.setIfInBounds_toArray, List.set_cons_zero, List.set_cons_succ, i64_w, i32_w]
                                         rfl
                                       refine one_ (i := 1) (N := some 144) (bl 26 3) rfl rfl (one_of HT_.out (by kernel_rfl)) (by decide) (fun K hK => ?_)
                                       refine goes_ Try.func34 (by kernel_rfl) rfl #[.agg #[.int .i64 ((rd_T24 l1 a2).f0), .int .i64 ((rd_T24 l1 a2).f1), .int .u8 ((rd_T24 l1 a2).f2), .int .i64 ((rd_T24 l1 a2).f3), .int .i64 ((rd_T24 l1 a2).f4), .int .i64 ((rd_T24 l1 a2).f5)]] (by rfl) rfl rfl (by (try simp only [List.map_toArray, List.map_cons, List.map_nil]); first | done | rfl | (simp only [List.length_drop, List.length_take]; rfl)) ?_
                                       with_reducible refine (interlockref07_taking.calls ((rd_T24 l1 a2).f0) ((rd_T24 l1 a2).f1) ((rd_T24 l1 a2).f2) ((rd_T24 l1 a2).f3) ((rd_T24 l1 a2).f4) ((rd_T24 l1 a2).f5) false _ A124.out).mono ?_
                                       rintro e w137 ⟨rfl, hb⟩
                                       refine ⟨_, rfl, ?_⟩
                                       have n0_ := Aside0.mk (blk_below (g := gb143) (o := .cells #[.int .i64 a0_0, .int .i64 a0_1, .int .i64 a0_2, .slice A0_3 l0_3.length c0_3, .int .i64 a0_4, .int .i64 a0_5, .slice A0_6 l0_6.length c0_6] 30 (0, 0)) (by (with_reducible repeat (first | refine blk_drewN ?_ _ | refine blk_drew ?_ | refine blk_alloc ?_ _)); exact BK143.out) hb)
                                       have n1_ := Aside0.mk (blk_below (g := gb145) (o := .cells #[.int .i64 ((rd_T24 l1 a2).f0), .int .i64 ((rd_T24 l1 a2).f1), .int .u8 ((rd_T24 l1 a2).f2), .int .i64 ((rd_T24 l1 a2).f3), .int .i64 ((rd_T24 l1 a2).f4), .int .i64 ((rd_T24 l1 a2).f5)] 24 (0, 0)) (by (with_reducible repeat (first | refine blk_drewN ?_ _ | refine blk_drew ?_ | refine blk_alloc ?_ _)); exact BK145.out) hb)
                                       have n2_ := Aside0.mk (blk_below (g := gb147) (o := .cells #[.int .i64 ((rd_T24 l1 a3).f0), .int .i64 ((rd_T24 l1 a3).f1), .int .u8 ((rd_T24 l1 a3).f2), .int .i64 ((rd_T24 l1 a3).f3), .int .i64 ((rd_T24 l1 a3).f4), .int .i64 ((rd_T24 l1 a3).f5)] 24 (0, 0)) (by (with_reducible repeat (first | refine blk_drewN ?_ _ | refine blk_drew ?_ | refine blk_alloc ?_ _)); exact BK147.out) hb)
                                       have n3_ := Aside0.mk (below_step (by repeat (first | (with_reducible first | exact HB.out | apply below_alloc | apply pw_below_drewN | apply below_drew1 | refine below_set ?_ GE143.out | refine below_set ?_ GE145.out | refine below_set ?_ GE147.out) | exact HB.out)) hb)
                                       clear BK143
                                       clear BK145
                                       clear BK147
                                       clear HB
                                       have BK143 := n0_
                                       have BK145 := n1_
                                       have BK147 := n2_
                                       have HB := n3_
                                       clear n0_ n1_ n2_ n3_
                                       (try clear hb)
                                       (try clear hb2)
                                       (try clear hk)
                                       (try clear hi)
                                       refine hK.out _ _ ⟨(blk_cell BK145.out 0).trans rfl, (blk_cell BK145.out 1).trans rfl, (blk_cell BK145.out 2).trans rfl, (blk_cell BK145.out 3).trans rfl, (blk_cell BK145.out 4).trans rfl, (blk_cell BK145.out 5).trans rfl⟩ (fun hHeld => ?_)
                                       clear hK K
                                       refine norm_ (a' := ?_) ?_ ?_
                                       rotate_left
                                       · show Act.put _ (some 144) _ = _
                                         simp only [Act.put, List.setIfInBounds_toArray, List.set_cons_zero, List.set_cons_succ, i64_w, i32_w]
                                         rfl
                                       refine pure_ (i := 2) (N := some 145) (v := ?_) (a' := ?_) (bl 26 7) rfl rfl (any_of HT_.out (by kernel_rfl)) (fun _ _ _ h => h) (Or.inl ⟨by rfl, ?_⟩) ?_ ?_
                                       rotate_left
                                       · intro w'
                                         go_simp
                                         with_reducible rfl
                                       rotate_left
                                       · simp only [Act.put, List.setIfInBounds_toArray, List.set_cons_zero, List.set_cons_succ, i64_w, i32_w]
                                         rfl
                                       refine pure_ (i := 3) (N := some 146) (v := undef) (a' := ?_) (bl 26 15) rfl rfl (any_of HT_.out (by kernel_rfl)) (fun _ _ _ h => h) (Or.inr ⟨by rfl, rfl⟩) ?_ ?_
                                       rotate_left
                                       · simp only [Act.put, List.setIfInBounds_toArray, List.set_cons_zero, List.set_cons_succ, i64_w, i32_w]
                                         rfl
                                       refine pure_ (i := 4) (N := some 147) (v := undef) (a' := ?_) (bl 26 31) rfl rfl (any_of HT_.out (by kernel_rfl)) (fun _ _ _ h => h) (Or.inr ⟨by rfl, rfl⟩) ?_ ?_
                                       rotate_left
                                       · simp only [Act.put, List.setIfInBounds_toArray, List.set_cons_zero, List.set_cons_succ, i64_w, i32_w]
                                         rfl
                                       refine pure_ (i := 5) (N := some 148) (v := undef) (a' := ?_) (bl 26 63) rfl rfl (any_of HT_.out (by kernel_rfl)) (fun _ _ _ h => h) (Or.inr ⟨by rfl, rfl⟩) ?_ ?_
                                       rotate_left
                                       · simp only [Act.put, List.setIfInBounds_toArray, List.set_cons_zero, List.set_cons_succ, i64_w, i32_w]
                                         rfl
                                       refine pure_ (i := 6) (N := some 149) (v := ?_) (a' := ?_) (bl 26 127) rfl rfl (any_of HT_.out (by kernel_rfl)) (fun _ _ _ h => h) (Or.inl ⟨by rfl, ?_⟩) ?_ ?_
                                       rotate_left
                                       · intro w'
                                         go_simp
                                         with_reducible rfl
                                       rotate_left
                                       · simp only [Act.put, List.setIfInBounds_toArray, List.set_cons_zero, List.set_cons_succ, i64_w, i32_w]
                                         rfl
                                       refine pure_ (i := 7) (N := some 150) (v := ?_) (a' := ?_) (bl 26 255) rfl rfl (any_of HT_.out (by kernel_rfl)) (fun _ _ _ h => h) (Or.inl ⟨by rfl, ?_⟩) ?_ ?_
                                       rotate_left
                                       · intro w'
                                         go_simp
                                         with_reducible rfl
                                       rotate_left
                                       · simp only [Act.put, List.setIfInBounds_toArray, List.set_cons_zero, List.set_cons_succ, i64_w, i32_w]
                                         rfl
                                       refine pure_ (i := 8) (N := some 151) (v := undef) (a' := ?_) (bl 26 511) rfl rfl (any_of HT_.out (by kernel_rfl)) (fun _ _ _ h => h) (Or.inr ⟨by rfl, rfl⟩) ?_ ?_
                                       rotate_left
                                       · simp only [Act.put, List.setIfInBounds_toArray, List.set_cons_zero, List.set_cons_succ, i64_w, i32_w]
                                         rfl
                                       refine pure_ (i := 9) (N := some 152) (v := undef) (a' := ?_) (bl 26 1023) rfl rfl (any_of HT_.out (by kernel_rfl)) (fun _ _ _ h => h) (Or.inr ⟨by rfl, rfl⟩) ?_ ?_
                                       rotate_left
                                       · simp only [Act.put, List.setIfInBounds_toArray, List.set_cons_zero, List.set_cons_succ, i64_w, i32_w]
                                         rfl
                                       refine pure_ (i := 10) (N := some 153) (v := undef) (a' := ?_) (bl 26 2047) rfl rfl (any_of HT_.out (by kernel_rfl)) (fun _ _ _ h => h) (Or.inr ⟨by rfl, rfl⟩) ?_ ?_
                                       rotate_left
                                       · simp only [Act.put, List.setIfInBounds_toArray, List.set_cons_zero, List.set_cons_succ, i64_w, i32_w]
                                         rfl
                                       refine pure_ (i := 11) (N := some 154) (v := undef) (a' := ?_) (bl 26 4095) rfl rfl (any_of HT_.out (by kernel_rfl)) (fun _ _ _ h => h) (Or.inr ⟨by rfl, rfl⟩) ?_ ?_
                                       rotate_left
                                       · simp only [Act.put, List.setIfInBounds_toArray, List.set_cons_zero, List.set_cons_succ, i64_w, i32_w]
                                         rfl
                                       refine pure_ (i := 12) (N := some 155) (v := undef) (a' := ?_) (bl 26 8191) rfl rfl (any_of HT_.out (by kernel_rfl)) (fun _ _ _ h => h) (Or.inr ⟨by rfl, rfl⟩) ?_ ?_
                                       rotate_left
                                       · simp only [Act.put, List.setIfInBounds_toArray, List.set_cons_zero, List.set_cons_succ, i64_w, i32_w]
                                         rfl
                                       refine pure_ (i := 13) (N := some 156) (v := undef) (a' := ?_) (bl 26 16383) rfl rfl (any_of HT_.out (by kernel_rfl)) (fun _ _ _ h => h) (Or.inr ⟨by rfl, rfl⟩) ?_ ?_
                                       rotate_left
                                       · simp only [Act.put, List.setIfInBounds_toArray, List.set_cons_zero, List.set_cons_succ, i64_w, i32_w]
                                         rfl
                                       refine pure_ (i := 14) (N := some 157) (v := undef) (a' := ?_) (bl 26 32767) rfl rfl (any_of HT_.out (by kernel_rfl)) (fun _ _ _ h => h) (Or.inr ⟨by rfl, rfl⟩) ?_ ?_
                                       rotate_left
                                       · simp only [Act.put, List.setIfInBounds_toArray, List.set_cons_zero, List.set_cons_succ, i64_w, i32_w]
                                         rfl
                                       refine pure_ (i := 15) (N := some 158) (v := undef) (a' := ?_) (bl 26 65535) rfl rfl (any_of HT_.out (by kernel_rfl)) (fun _ _ _ h => h) (Or.inr ⟨by rfl, rfl⟩) ?_ ?_
                                       rotate_left
                                       · simp only [Act.put, List.setIfInBounds_toArray, List.set_cons_zero, List.set_cons_succ, i64_w, i32_w]
                                         rfl
                                       refine pure_ (i := 16) (N := some 159) (v := undef) (a' := ?_) (bl 26 131071) rfl rfl (any_of HT_.out (by kernel_rfl)) (fun _ _ _ h => h) (Or.inr ⟨by rfl, rfl⟩) ?_ ?_
                                       rotate_left
                                       · simp only [Act.put, List.setIfInBounds_toArray, List.set_cons_zero, List.set_cons_succ, i64_w, i32_w]
                                         rfl
                                       refine pure_ (i := 17) (N := some 160) (v := undef) (a' := ?_) (bl 26 262143) rfl rfl (any_of HT_.out (by kernel_rfl)) (fun _ _ _ h => h) (Or.inr ⟨by rfl, rfl⟩) ?_ ?_
                                       rotate_left
                                       · simp only [Act.put, List.setIfInBounds_toArray, List.set_cons_zero, List.set_cons_succ, i64_w, i32_w]
                                         rfl
                                       refine pure_ (i := 18) (N := some 161) (v := undef) (a' := ?_) (bl 26 524287) rfl rfl (any_of HT_.out (by kernel_rfl)) (fun _ _ _ h => h) (Or.inr ⟨by rfl, rfl⟩) ?_ ?_
                                       rotate_left
                                       · simp only [Act.put, List.setIfInBounds_toArray, List.set_cons_zero, List.set_cons_succ, i64_w, i32_w]
                                         rfl
                                       refine pure_ (i := 19) (N := some 162) (v := undef) (a' := ?_) (bl 26 1048575) rfl rfl (any_of HT_.out (by kernel_rfl)) (fun _ _ _ h => h) (Or.inr ⟨by rfl, rfl⟩) ?_ ?_
                                       rotate_left
                                       · simp only [Act.put, List.setIfInBounds_toArray, List.set_cons_zero, List.set_cons_succ, i64_w, i32_w]
                                         rfl
                                       refine pure_ (i := 20) (N := some 163) (v := undef) (a' := ?_) (bl 26 2097151) rfl rfl (any_of HT_.out (by kernel_rfl)) (fun _ _ _ h => h) (Or.inr ⟨by rfl, rfl⟩) ?_ ?_
                                       rotate_left
                                       · simp only [Act.put, List.setIfInBounds_toArray, List.set_cons_zero, List.set_cons_succ, i64_w, i32_w]
                                         rfl
                                       refine pure_ (i := 21) (N := some 164) (v := undef) (a' := ?_) (bl 26 4194303) rfl rfl (any_of HT_.out (by kernel_rfl)) (fun _ _ _ h => h) (Or.inr ⟨by rfl, rfl⟩) ?_ ?_
                                       rotate_left
                                       · simp only [Act.put, List.setIfInBounds_toArray, List.set_cons_zero, List.set_cons_succ, i64_w, i32_w]
                                         rfl
                                       refine pure_ (i := 22) (N := some 165) (v := undef) (a' := ?_) (bl 26 8388607) rfl rfl (any_of HT_.out (by kernel_rfl)) (fun _ _ _ h => h) (Or.inr ⟨by rfl, rfl⟩) ?_ ?_
                                       rotate_left
                                       · simp only [Act.put, List.setIfInBounds_toArray, List.set_cons_zero, List.set_cons_succ, i64_w, i32_w]
                                         rfl
                                       refine pure_ (i := 23) (N := some 166) (v := undef) (a' := ?_) (bl 26 16777215) rfl rfl (any_of HT_.out (by kernel_rfl)) (fun _ _ _ h => h) (Or.inr ⟨by rfl, rfl⟩) ?_ ?_
                                       rotate_left
                                       · simp only [Act.put, List.setIfInBounds_toArray, List.set_cons_zero, List.set_cons_succ, i64_w, i32_w]
                                         rfl
                                       refine pure_ (i := 24) (N := some 167) (v := ?_) (a' := ?_) (bl 26 33554431) rfl rfl (any_of HT_.out (by kernel_rfl)) (fun _ _ _ h => h) (Or.inl ⟨by rfl, ?_⟩) ?_ ?_
                                       rotate_left
                                       · intro w'
                                         go_simp
                                         with_reducible rfl
                                       rotate_left
                                       · simp only [Act.put, List.setIfInBounds_toArray, List.set_cons_zero, List.set_cons_succ, i64_w, i32_w]
                                         rfl
                                       refine pure_ (i := 25) (N := some 8) (v := ?_) (a' := ?_) (bl 26 67108863) rfl rfl (any_of HT_.out (by kernel_rfl)) (fun _ _ _ h => h) (Or.inl ⟨by rfl, ?_⟩) ?_ ?_
                                       rotate_left
                                       · intro w'
                                         go_simp
                                         with_reducible rfl
                                       rotate_left
                                       · simp only [Act.put, List.setIfInBounds_toArray, List.set_cons_zero, List.set_cons_succ, i64_w, i32_w]
                                         rfl
                                       refine done_ (done_of HT_.out (by kernel_rfl)) ?_
                                       try go_wp2
                                       go_ret
                                       exact ⟨by first | rfl | (simp [errW_none, errW_some] <;> rfl) | (simp [*, errW_none, errW_some] <;> rfl), by repeat (first | (with_reducible first | exact HB.out | apply below_alloc | apply pw_below_drewN | apply below_drew1 | refine below_set ?_ GE143.out | refine below_set ?_ GE145.out | refine below_set ?_ GE147.out) | exact HB.out)⟩
                 · rw [if_neg c40] at H
                   have c40b0 : (((rd_T24 l1 a2).f3) == ((rd_T24 l1 a3).f3)) = false := beq_eq_false_iff_ne.mpr c40
                   have c40b1 : (((rd_T24 l1 a2).f3) != ((rd_T24 l1 a3).f3)) = true := bne_iff_ne.mpr c40
                   obtain rfl := Option.some.inj H
                   have hnb138 := NB145_143.out
                   have hnc138 := NB143_145.out
                   have hnb139 := NB145_147.out
                   have hnc139 := NB147_145.out
                   have hcz140_0 : wc.cell? ⟨gb145, 0, none⟩ = some (.int .i64 ((rd_T24 l1 a2).f0)) := (blk_cell BK145.out 0).trans rfl
                   have hcz140_1 : wc.cell? ⟨gb145, 1, none⟩ = some (.int .i64 ((rd_T24 l1 a2).f1)) := (blk_cell BK145.out 1).trans rfl
                   have hcz140_2 : wc.cell? ⟨gb145, 2, none⟩ = some (.int .u8 ((rd_T24 l1 a2).f2)) := (blk_cell BK145.out 2).trans rfl
                   have hcz140_3 : wc.cell? ⟨gb145, 3, none⟩ = some (.int .i64 ((rd_T24 l1 a2).f3)) := (blk_cell BK145.out 3).trans rfl
                   have hcz140_4 : wc.cell? ⟨gb145, 4, none⟩ = some (.int .i64 ((rd_T24 l1 a2).f4)) := (blk_cell BK145.out 4).trans rfl
                   have hcz140_5 : wc.cell? ⟨gb145, 5, none⟩ = some (.int .i64 ((rd_T24 l1 a2).f5)) := (blk_cell BK145.out 5).trans rfl
                   have hfz140_0 := blk_frozen BK145.out 0
                   have hfz140_1 := blk_frozen BK145.out 1
                   have hfz140_2 := blk_frozen BK145.out 2
                   have hfz140_3 := blk_frozen BK145.out 3
                   have hfz140_4 := blk_frozen BK145.out 4
                   have hfz140_5 := blk_frozen BK145.out 5
                   have hnb141 := NB147_143.out
                   have hnc141 := NB143_147.out
                   have hcz142_0 : wc.cell? ⟨gb147, 0, none⟩ = some (.int .i64 ((rd_T24 l1 a3).f0)) := (blk_cell BK147.out 0).trans rfl
                   have hcz142_1 : wc.cell? ⟨gb147, 1, none⟩ = some (.int .i64 ((rd_T24 l1 a3).f1)) := (blk_cell BK147.out 1).trans rfl
                   have hcz142_2 : wc.cell? ⟨gb147, 2, none⟩ = some (.int .u8 ((rd_T24 l1 a3).f2)) := (blk_cell BK147.out 2).trans rfl
                   have hcz142_3 : wc.cell? ⟨gb147, 3, none⟩ = some (.int .i64 ((rd_T24 l1 a3).f3)) := (blk_cell BK147.out 3).trans rfl
                   have hcz142_4 : wc.cell? ⟨gb147, 4, none⟩ = some (.int .i64 ((rd_T24 l1 a3).f4)) := (blk_cell BK147.out 4).trans rfl
                   have hcz142_5 : wc.cell? ⟨gb147, 5, none⟩ = some (.int .i64 ((rd_T24 l1 a3).f5)) := (blk_cell BK147.out 5).trans rfl
                   have hfz142_0 := blk_frozen BK147.out 0
                   have hfz142_1 := blk_frozen BK147.out 1
                   have hfz142_2 := blk_frozen BK147.out 2
                   have hfz142_3 := blk_frozen BK147.out 3
                   have hfz142_4 := blk_frozen BK147.out 4
                   have hfz142_5 := blk_frozen BK147.out 5
                   go_wp2
                   go_ret
                   exact ⟨by first | rfl | (simp [errW_none, errW_some] <;> rfl) | (simp [*, errW_none, errW_some] <;> rfl), by repeat (first | (with_reducible first | exact HB.out | apply below_alloc | apply pw_below_drewN | apply below_drew1 | refine below_set ?_ GE143.out | refine below_set ?_ GE145.out | refine below_set ?_ GE147.out) | exact HB.out)⟩
           · rw [if_neg c13] at H
             exact absurd H (by simp)
         · rw [if_neg c12] at H
           exact absurd H (by simp)
       · rw [if_neg c11] at H
         exact absurd H (by simp)
     · rw [if_neg c10] at H
       exact absurd H (by simp)
end Go.Proofs.Ytojkeabecjlaeaa.P
