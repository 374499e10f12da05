/- The walks of the functions that a law reaches, or the law's row: printed by a program of this session (wip/xprint.py) that drives the kit's printer with contracts of its own. -/
import Derived.Test.YtojkeabecjlaeaaXBits
import Derived.Test.YtojkeabecjlaeaaPx0
import Derived.Test.YtojkeabecjlaeaaOHand9
import Derived.Test.YtojkeabecjlaeaaPx1
import Derived.Test.YtojkeabecjlaeaaPx3
import Derived.Test.YtojkeabecjlaeaaPx5
import Derived.Test.YtojkeabecjlaeaaPx6
import Derived.Test.YtojkeabecjlaeaaDQ
namespace Go.Proofs.Ytojkeabecjlaeaa.P
open Go.RowKit Go.Proofs.YtojkeabecjlaeaaW.PrintWords Go.Proofs.YtojkeabecjlaeaaW.PrintLast Go.Proofs.YtojkeabecjlaeaaW.PrintMore Go.Proofs.YtojkeabecjlaeaaX
attribute [local go_sem] max2_int min2_int max_two min_two max_three min_three max_four min_four
set_option linter.unusedVariables false
set_option linter.unusedSimpArgs false
def interlocklaw07_OrderRaw.j0 : Nat → List (S69) → List (S24) → List Int → Int → Int → Int → Int → Bool → Option (Bool)
 | 0, _, _, _, _, _, _, _, _ => none
 | k + 1, x0, x1, x2, x3, x4, x5, x6, x31 => if x31 = true then ((interlocklaw07_known.f).bind fun t202 => (some t202)) else ((interlocklaw07_Trace.f k x0).bind fun t204 => ((order_Direct.f 0 0 0 x2 0 0 ([] : List (List (S34))) t204 (wrap64 (Int.tmod x5 26)) (wrap64 (Int.tmod x6 26))).bind fun t207 => ((interlockref07_Direct.f k 0 0 0 x2 0 0 ([] : List (List (S34))) t204 (wrap64 (Int.tmod x5 26)) (wrap64 (Int.tmod x6 26))).bind fun t208 => (if (t207 == t208) = true then ((order_Before.f 0 0 0 x2 0 0 ([] : List (List (S34))) t204 (wrap64 (Int.tmod x5 26)) (wrap64 (Int.tmod x6 26))).bind fun t209 => ((interlockref07_Before.f k 0 0 0 x2 0 0 ([] : List (List (S34))) t204 (wrap64 (Int.tmod x5 26)) (wrap64 (Int.tmod x6 26))).bind fun t210 => (if (t209 == t210) = true then ((order_Direct.f 0 0 0 x2 0 0 ([] : List (List (S34))) x1 x3 x4).bind fun t211 => ((interlockref07_Direct.f k 0 0 0 x2 0 0 ([] : List (List (S34))) x1 x3 x4).bind fun t212 => (if (t211 == t212) = true then ((order_Before.f 0 0 0 x2 0 0 ([] : List (List (S34))) x1 x3 x4).bind fun t213 => ((interlockref07_Before.f k 0 0 0 x2 0 0 ([] : List (List (S34))) x1 x3 x4).bind fun t214 => (if (t213 == t214) = true then ((order_Past.f 0 0 0 x2 0 0 ([] : List (List (S34))) x1 x4).bind fun t215 => ((interlockref07_Past.f k 0 0 0 x2 0 0 ([] : List (List (S34))) x1 x4).bind fun t218 => ((interlocklaw07_same.f k t215 t218).bind fun t221 => (if t221 = true then ((interlocklaw07_tells.f k 0 0 0 x2 0 0 ([] : List (List (S34))) t204).bind fun t222 => (if t222 = true then ((interlocklaw07_tells.f k 0 0 0 x2 0 0 ([] : List (List (S34))) x1).bind fun t223 => (some t223)) else (some false))) else (some false))))) else (some false)))) else (some false)))) else (some false)))) else (some false)))))
def interlocklaw07_OrderRaw.f (k : Nat) (l0 : List (S69)) (l1 : List (S24)) (l2 : List Int) (a3 : Int) (a4 : Int) (a5 : Int) (a6 : Int) : Option (Bool) := if (l1.length : Int) > 20 then (interlocklaw07_OrderRaw.j0 k l0 l1 l2 a3 a4 a5 a6 true) else (if (l2.length : Int) > 5 then (interlocklaw07_OrderRaw.j0 k l0 l1 l2 a3 a4 a5 a6 true) else ((interlocklaw07_known.f).bind fun t201 => (interlocklaw07_OrderRaw.j0 k l0 l1 l2 a3 a4 a5 a6 (!t201))))
def interlocklaw07_OrderRaw.T7 : Bool × List (List Nat × List Nat) := (true, [([], []), ([], []), ([], []), ([], []), ([0, 1, 2, 3], [0, 1, 2, 3]), ([], []), ([], []), ([], []), ([], []), ([5, 6, 7, 8, 4], [5, 6, 7, 8]), ([4, 9], [4, 9]), ([10, 9], [10]), ([11], [11]), ([11], [11]), ([11], [11]), ([11], [11]), ([12, 13, 14, 15, 11, 11], [11, 12, 13, 14, 15]), ([11], [11]), ([11], [11]), ([11], [11]), ([11], [11]), ([17, 18, 19, 20, 16, 11], [11, 17, 18, 19, 20]), ([16, 21, 11], [11, 16, 21]), ([11, 22], [11, 22]), ([23, 21], [23]), ([24], [24]), ([24], [24]), ([24], [24]), ([24], [24]), ([25, 26, 27, 28, 24, 24], [24, 25, 26, 27, 28]), ([24], [24]), ([24], [24]), ([24], [24]), ([24], [24]), ([30, 31, 32, 33, 29, 24], [24, 30, 31, 32, 33]), ([29, 34, 24], [24, 29, 34]), ([24, 35], [24, 35]), ([36, 34], [36]), ([37], [37]), ([37], [37]), ([37], [37]), ([37], [37]), ([38, 39, 40, 41, 37, 37], [37, 38, 39, 40, 41]), ([37], [37]), ([37], [37]), ([37], [37]), ([37], [37]), ([43, 44, 45, 46, 42, 37], [37, 43, 44, 45, 46]), ([42, 47, 37], [37, 42, 47]), ([37, 48], [37, 48]), ([49, 47], [49]), ([50], [50]), ([50], [50]), ([50], [50]), ([51, 52, 53, 50, 50], [50, 51, 52, 53]), ([50], [50]), ([50], [50]), ([50], [50]), ([55, 56, 57, 54, 50], [50, 55, 56, 57]), ([54, 58, 58, 50], [50, 54, 58]), ([50, 59], [50, 59]), ([60, 59, 0, 1, 2, 3, 4, 5, 6, 7, 8, 9, 10, 11, 12, 13, 14, 15, 16, 17, 18, 19, 20, 21, 22, 23, 24, 25, 26, 27, 28, 29, 30, 31, 32, 33, 34, 35, 36, 37, 38, 39, 40, 41, 42, 43, 44, 45, 46, 47, 48, 49, 50, 51, 52, 53, 54, 55, 56, 57, 58, 59, 60], [60])])
def interlocklaw07_OrderRaw.B7 : List Nat := [0, 0, 0, 0, 15, 0, 0, 0, 0, 511, 1023, 2047, 4095, 4095, 4095, 4095, 65535, 4095, 4095, 4095, 4095, 2097151, 4194303, 8388607, 16777215, 33554431, 33554431, 33554431, 33554431, 536870911, 33554431, 33554431, 33554431, 33554431, 17179869183, 34359738367, 68719476735, 137438953471, 274877906943, 274877906943, 274877906943, 274877906943, 4398046511103, 274877906943, 274877906943, 274877906943, 274877906943, 140737488355327, 281474976710655, 562949953421311, 1125899906842623, 2251799813685247, 2251799813685247, 2251799813685247, 18014398509481983, 2251799813685247, 2251799813685247, 2251799813685247, 288230376151711743, 576460752303423487, 1152921504606846975, 2305843009213693951]
theorem interlocklaw07_OrderRaw.tab7 : rtab .any (opsOf Try.f6 7) = interlocklaw07_OrderRaw.T7 := by kernel_rfl
theorem interlocklaw07_OrderRaw.bits7 : waitsOk interlocklaw07_OrderRaw.T7.2 interlocklaw07_OrderRaw.B7 = true := by kernel_rfl
set_option maxHeartbeats 8000000 in
set_option maxRecDepth 100000 in
theorem interlocklaw07_OrderRaw.calls (k : Nat) (A0 : Option Addr) (c0 : Nat) (l0 : List (S69)) (A1 : Option Addr) (c1 : Nat) (l1 : List (S24)) (A2 : Option Addr) (c2 : Nat) (l2 : List Int) (a3 : Int) (a4 : Int) (a5 : Int) (a6 : Int) (r : Bool) (w : World) (hr0 : Kd.C k69 w A0 l0.length l0) (hc0 : l0.length ≤ c0) (hr1 : Kd.C k24 w A1 l1.length l1) (hc1 : l1.length ≤ c1) (hr2 : Kd.C (Kd.int .i64) w A2 l2.length l2) (hc2 : l2.length ≤ c2) (h : interlocklaw07_OrderRaw.f k l0 l1 l2 a3 a4 a5 a6 = some r) :
 Calls Try.prog 6 #[.slice A0 l0.length c0, .slice A1 l1.length c1, .slice A2 l2.length c2, .int .i64 a3, .int .i64 a4, .int .u8 a5, .int .u8 a6] w fun e w' => e = .returned (.bool r) ∧ Below w.heap.size w w' := by
 have hu30 := Try.underlying30
 have HR0 := Aside0.mk hr0
 have HC0 := Aside0.mk hc0
 clear hr0 hc0
 have HR1 := Aside0.mk hr1
 have HC1 := Aside0.mk hc1
 clear hr1 hc1
 have HR2 := Aside0.mk hr2
 have HC2 := Aside0.mk hc2
 clear hr2 hc2
 have HB := Aside0.mk (Below.refl w.heap.size w)
 have H : (if (l1.length : Int) > 20 then (interlocklaw07_OrderRaw.j0 k l0 l1 l2 a3 a4 a5 a6 true) else (if (l2.length : Int) > 5 then (interlocklaw07_OrderRaw.j0 k l0 l1 l2 a3 a4 a5 a6 true) else ((interlocklaw07_known.f).bind fun t201 => (interlocklaw07_OrderRaw.j0 k l0 l1 l2 a3 a4 a5 a6 (!t201))))) = some r := h
 clear h
 have HC8 := Aside0.mk H
 clear H
 go_enter Try.func6, Try.ntmps6
 go_upto_region 1 with (fail)
 go_cut [31] (fun v31 wc => ∃ (kq : Nat) (x31_7 : Bool), v31 = .bool x31_7 ∧ Aside0 (interlocklaw07_OrderRaw.j0 kq l0 l1 l2 a3 a4 a5 a6 x31_7 = some r) ∧ Aside0 (kq ≤ k) ∧ Aside0 (Below w.heap.size w wc))
 case first =>
  have H := HC8.out
  clear HC8
  by_cases c9 : (l1.length : Int) > 20
  · rw [if_pos c9] at H
    have c9b0 : decide (20 < (l1.length : Int)) = true := decide_eq_true c9
    have c9b1 : decide (20 < l1.length) = true := decide_eq_true (by omega)
    clear c9
    (first | rw [c9b0] | (simp only [i64_w, i32_w]; rw [c9b0]) | skip)
    have H' := Aside0.mk H
    clear H
    go_wp2
    go_meet
    case rel => exact ⟨_, (true), (by first | rfl | (simp; done) | (simp [*]; done)), H', ⟨by first | omega | exact Nat.le_refl _⟩, ⟨by repeat (first | (with_reducible first | exact HB.out | apply below_alloc | apply pw_below_drewN | apply below_drew1) | exact HB.out)⟩⟩
  · rw [if_neg c9] at H
    have c9b0 : decide (20 < (l1.length : Int)) = false := decide_eq_false c9
    have c9b1 : decide (20 < l1.length) = false := decide_eq_false (by omega)
    clear c9
    (first | rw [c9b0] | (simp only [i64_w, i32_w]; rw [c9b0]) | skip)
    by_cases c10 : (l2.length : Int) > 5
    · rw [if_pos c10] at H
      have c10b0 : decide (5 < (l2.length : Int)) = true := decide_eq_true c10
      have c10b1 : decide (5 < l2.length) = true := decide_eq_true (by omega)
      clear c10
      have H' := Aside0.mk H
      clear H
      go_wp2
      go_meet
      case rel => exact ⟨_, (true), (by first | rfl | (simp; done) | (simp [*]; done)), H', ⟨by first | omega | exact Nat.le_refl _⟩, ⟨by repeat (first | (with_reducible first | exact HB.out | apply below_alloc | apply pw_below_drewN | apply below_drew1) | exact HB.out)⟩⟩
    · rw [if_neg c10] at H
      have c10b0 : decide (5 < (l2.length : Int)) = false := decide_eq_false c10
      have c10b1 : decide (5 < l2.length) = false := decide_eq_false (by omega)
      clear c10
      replace H := Option.bind_eq_some_iff.mp H
      obtain ⟨t201, A110, H⟩ := H
      replace H : (interlocklaw07_OrderRaw.j0 k l0 l1 l2 a3 a4 a5 a6 (!t201)) = some r := H
      have A11 := Aside0.mk A110
      clear A110
      have H' := Aside0.mk H
      clear H
      go_wp2_with (first | (go_at_call 10; (with_reducible refine (interlocklaw07_known.calls  t201 _ A11.out).mono ?_); rintro e w12 ⟨rfl, hb⟩; have n0_ := Aside0.mk (below_step (by repeat (first | (with_reducible first | exact HB.out | apply below_alloc | apply pw_below_drewN | apply below_drew1) | exact HB.out)) hb); clear HB; have HB := n0_; clear n0_; (try clear hb); (try clear hb2); (try clear hk); (try clear hi)))
      go_meet
      case rel => exact ⟨_, (!t201), (by first | rfl | (simp; done) | (simp [*]; done)), H', ⟨by first | omega | exact Nat.le_refl _⟩, ⟨by repeat (first | (with_reducible first | exact HB.out | apply below_alloc | apply pw_below_drewN | apply below_drew1) | exact HB.out)⟩⟩
 case rest =>
  clear HC8
  try clear c1
  try clear c2
  try clear p2
  try clear c6
  try clear c9
  try clear c9b0
  try clear c9b1
  try clear c10
  try clear c10b0
  try clear c10b1
  obtain ⟨kq, x31_7, rfl, HA, HJ7, HB⟩ := hcut
  cases kq with
  | zero => exact absurd HA.out (by simp [interlocklaw07_OrderRaw.j0])
  | succ kj7 =>
   have H := HA.out
   clear HA
   simp only [interlocklaw07_OrderRaw.j0] at H
   by_cases c13 : x31_7 = true
   · subst c13
     have H1 : ((interlocklaw07_known.f).bind fun t202 => (some t202)) = some r := by rw [if_pos rfl] at H; exact H
     clear H
     have H := H1
     clear H1
     replace H := Option.bind_eq_some_iff.mp H
     obtain ⟨t202, A140, H⟩ := H
     replace H : (some t202) = some r := H
     have A14 := Aside0.mk A140
     clear A140
     obtain rfl := Option.some.inj H
     go_wp2_with (first | ((with_reducible refine gate_callee (f := 10) rfl ?_); refine goesL_ (some 32) rfl rfl Try.func10 (by kernel_rfl) rfl #[] rfl (by (try simp only [List.map_toArray, List.map_cons, List.map_nil]); first | done | rfl | (simp only [List.length_drop, List.length_take]; rfl)) ?_; (with_reducible refine (interlocklaw07_known.calls  t202 _ A14.out).mono ?_); rintro e w15 ⟨rfl, hb⟩; refine ⟨_, rfl, ?_⟩; have n0_ := Aside0.mk (below_step (by repeat (first | (with_reducible first | exact HB.out | apply below_alloc | apply pw_below_drewN | apply below_drew1) | exact HB.out)) hb); clear HB; have HB := n0_; clear n0_; (try clear hb); (try clear hb2); (try clear hk); (try clear hi)))
     go_ret
     exact ⟨by first | rfl | (simp [errW_none, errW_some] <;> rfl) | (simp [*, errW_none, errW_some] <;> rfl), by repeat (first | (with_reducible first | exact HB.out | apply below_alloc | apply pw_below_drewN | apply below_drew1) | exact HB.out)⟩
   · replace c13 := Bool.eq_false_iff.mpr c13
     subst c13
     have H1 : ((interlocklaw07_Trace.f kj7 l0).bind fun t204 => ((order_Direct.f 0 0 0 l2 0 0 ([] : List (List (S34))) t204 (wrap64 (Int.tmod a5 26)) (wrap64 (Int.tmod a6 26))).bind fun t207 => ((interlockref07_Direct.f kj7 0 0 0 l2 0 0 ([] : List (List (S34))) t204 (wrap64 (Int.tmod a5 26)) (wrap64 (Int.tmod a6 26))).bind fun t208 => (if (t207 == t208) = true then ((order_Before.f 0 0 0 l2 0 0 ([] : List (List (S34))) t204 (wrap64 (Int.tmod a5 26)) (wrap64 (Int.tmod a6 26))).bind fun t209 => ((interlockref07_Before.f kj7 0 0 0 l2 0 0 ([] : List (List (S34))) t204 (wrap64 (Int.tmod a5 26)) (wrap64 (Int.tmod a6 26))).bind fun t210 => (if (t209 == t210) = true then ((order_Direct.f 0 0 0 l2 0 0 ([] : List (List (S34))) l1 a3 a4).bind fun t211 => ((interlockref07_Direct.f kj7 0 0 0 l2 0 0 ([] : List (List (S34))) l1 a3 a4).bind fun t212 => (if (t211 == t212) = true then ((order_Before.f 0 0 0 l2 0 0 ([] : List (List (S34))) l1 a3 a4).bind fun t213 => ((interlockref07_Before.f kj7 0 0 0 l2 0 0 ([] : List (List (S34))) l1 a3 a4).bind fun t214 => (if (t213 == t214) = true then ((order_Past.f 0 0 0 l2 0 0 ([] : List (List (S34))) l1 a4).bind fun t215 => ((interlockref07_Past.f kj7 0 0 0 l2 0 0 ([] : List (List (S34))) l1 a4).bind fun t218 => ((interlocklaw07_same.f kj7 t215 t218).bind fun t221 => (if t221 = true then ((interlocklaw07_tells.f kj7 0 0 0 l2 0 0 ([] : List (List (S34))) t204).bind fun t222 => (if t222 = true then ((interlocklaw07_tells.f kj7 0 0 0 l2 0 0 ([] : List (List (S34))) l1).bind fun t223 => (some t223)) else (some false))) else (some false))))) else (some false)))) else (some false)))) else (some false)))) else (some false))))) = some r := by rw [if_neg (show ¬ (false = true) by decide)] at H; exact H
     clear H
     have H := H1
     clear H1
     replace H := Option.bind_eq_some_iff.mp H
     obtain ⟨t204, A160, H⟩ := H
     replace H : ((order_Direct.f 0 0 0 l2 0 0 ([] : List (List (S34))) t204 (wrap64 (Int.tmod a5 26)) (wrap64 (Int.tmod a6 26))).bind fun t207 => ((interlockref07_Direct.f kj7 0 0 0 l2 0 0 ([] : List (List (S34))) t204 (wrap64 (Int.tmod a5 26)) (wrap64 (Int.tmod a6 26))).bind fun t208 => (if (t207 == t208) = true then ((order_Before.f 0 0 0 l2 0 0 ([] : List (List (S34))) t204 (wrap64 (Int.tmod a5 26)) (wrap64 (Int.tmod a6 26))).bind fun t209 => ((interlockref07_Before.f kj7 0 0 0 l2 0 0 ([] : List (List (S34))) t204 (wrap64 (Int.tmod a5 26)) (wrap64 (Int.tmod a6 26))).bind fun t210 => (if (t209 == t210) = true then ((order_Direct.f 0 0 0 l2 0 0 ([] : List (List (S34))) l1 a3 a4).bind fun t211 => ((interlockref07_Direct.f kj7 0 0 0 l2 0 0 ([] : List (List (S34))) l1 a3 a4).bind fun t212 => (if (t211 == t212) = true then ((order_Before.f 0 0 0 l2 0 0 ([] : List (List (S34))) l1 a3 a4).bind fun t213 => ((interlockref07_Before.f kj7 0 0 0 l2 0 0 ([] : List (List (S34))) l1 a3 a4).bind fun t214 => (if (t213 == t214) = true then ((order_Past.f 0 0 0 l2 0 0 ([] : List (List (S34))) l1 a4).bind fun t215 => ((interlockref07_Past.f kj7 0 0 0 l2 0 0 ([] : List (List (S34))) l1 a4).bind fun t218 => ((interlocklaw07_same.f kj7 t215 t218).bind fun t221 => (if t221 = true then ((interlocklaw07_tells.f kj7 0 0 0 l2 0 0 ([] : List (List (S34))) t204).bind fun t222 => (if t222 = true then ((interlocklaw07_tells.f kj7 0 0 0 l2 0 0 ([] : List (List (S34))) l1).bind fun t223 => (some t223)) else (some false))) else (some false))))) else (some false)))) else (some false)))) else (some false)))) else (some false)))) = some r := H
     have A16 := Aside0.mk A160
     clear A160
     replace H := Option.bind_eq_some_iff.mp H
     obtain ⟨t207, A170, H⟩ := H
     replace H : ((interlockref07_Direct.f kj7 0 0 0 l2 0 0 ([] : List (List (S34))) t204 (wrap64 (Int.tmod a5 26)) (wrap64 (Int.tmod a6 26))).bind fun t208 => (if (t207 == t208) = true then ((order_Before.f 0 0 0 l2 0 0 ([] : List (List (S34))) t204 (wrap64 (Int.tmod a5 26)) (wrap64 (Int.tmod a6 26))).bind fun t209 => ((interlockref07_Before.f kj7 0 0 0 l2 0 0 ([] : List (List (S34))) t204 (wrap64 (Int.tmod a5 26)) (wrap64 (Int.tmod a6 26))).bind fun t210 => (if (t209 == t210) = true then ((order_Direct.f 0 0 0 l2 0 0 ([] : List (List (S34))) l1 a3 a4).bind fun t211 => ((interlockref07_Direct.f kj7 0 0 0 l2 0 0 ([] : List (List (S34))) l1 a3 a4).bind fun t212 => (if (t211 == t212) = true then ((order_Before.f 0 0 0 l2 0 0 ([] : List (List (S34))) l1 a3 a4).bind fun t213 => ((interlockref07_Before.f kj7 0 0 0 l2 0 0 ([] : List (List (S34))) l1 a3 a4).bind fun t214 => (if (t213 == t214) = true then ((order_Past.f 0 0 0 l2 0 0 ([] : List (List (S34))) l1 a4).bind fun t215 => ((interlockref07_Past.f kj7 0 0 0 l2 0 0 ([] : List (List (S34))) l1 a4).bind fun t218 => ((interlocklaw07_same.f kj7 t215 t218).bind fun t221 => (if t221 = true then ((interlocklaw07_tells.f kj7 0 0 0 l2 0 0 ([] : List (List (S34))) t204).bind fun t222 => (if t222 = true then ((interlocklaw07_tells.f kj7 0 0 0 l2 0 0 ([] : List (List (S34))) l1).bind fun t223 => (some t223)) else (some false))) else (some false))))) else (some false)))) else (some false)))) else (some false)))) else (some false))) = some r := H
     have A17 := Aside0.mk A170
     clear A170
     replace H := Option.bind_eq_some_iff.mp H
     obtain ⟨t208, A180, H⟩ := H
     replace H : (if (t207 == t208) = true then ((order_Before.f 0 0 0 l2 0 0 ([] : List (List (S34))) t204 (wrap64 (Int.tmod a5 26)) (wrap64 (Int.tmod a6 26))).bind fun t209 => ((interlockref07_Before.f kj7 0 0 0 l2 0 0 ([] : List (List (S34))) t204 (wrap64 (Int.tmod a5 26)) (wrap64 (Int.tmod a6 26))).bind fun t210 => (if (t209 == t210) = true then ((order_Direct.f 0 0 0 l2 0 0 ([] : List (List (S34))) l1 a3 a4).bind fun t211 => ((interlockref07_Direct.f kj7 0 0 0 l2 0 0 ([] : List (List (S34))) l1 a3 a4).bind fun t212 => (if (t211 == t212) = true then ((order_Before.f 0 0 0 l2 0 0 ([] : List (List (S34))) l1 a3 a4).bind fun t213 => ((interlockref07_Before.f kj7 0 0 0 l2 0 0 ([] : List (List (S34))) l1 a3 a4).bind fun t214 => (if (t213 == t214) = true then ((order_Past.f 0 0 0 l2 0 0 ([] : List (List (S34))) l1 a4).bind fun t215 => ((interlockref07_Past.f kj7 0 0 0 l2 0 0 ([] : List (List (S34))) l1 a4).bind fun t218 => ((interlocklaw07_same.f kj7 t215 t218).bind fun t221 => (if t221 = true then ((interlocklaw07_tells.f kj7 0 0 0 l2 0 0 ([] : List (List (S34))) t204).bind fun t222 => (if t222 = true then ((interlocklaw07_tells.f kj7 0 0 0 l2 0 0 ([] : List (List (S34))) l1).bind fun t223 => (some t223)) else (some false))) else (some false))))) else (some false)))) else (some false)))) else (some false)))) else (some false)) = some r := H
     have A18 := Aside0.mk A180
     clear A180
     by_cases c19 : (t207 == t208) = true
     · rw [if_pos c19] at H
       have c19b0 : (t207 == t208) = true := c19
       (try (have c19b1 : decide (t207 = t208) = true := by simpa using c19))
       (try (have c19b2 : (t207 == t208) = true := by simpa using c19))
       clear c19
       replace H := Option.bind_eq_some_iff.mp H
       obtain ⟨t209, A200, H⟩ := H
       replace H : ((interlockref07_Before.f kj7 0 0 0 l2 0 0 ([] : List (List (S34))) t204 (wrap64 (Int.tmod a5 26)) (wrap64 (Int.tmod a6 26))).bind fun t210 => (if (t209 == t210) = true then ((order_Direct.f 0 0 0 l2 0 0 ([] : List (List (S34))) l1 a3 a4).bind fun t211 => ((interlockref07_Direct.f kj7 0 0 0 l2 0 0 ([] : List (List (S34))) l1 a3 a4).bind fun t212 => (if (t211 == t212) = true then ((order_Before.f 0 0 0 l2 0 0 ([] : List (List (S34))) l1 a3 a4).bind fun t213 => ((interlockref07_Before.f kj7 0 0 0 l2 0 0 ([] : List (List (S34))) l1 a3 a4).bind fun t214 => (if (t213 == t214) = true then ((order_Past.f 0 0 0 l2 0 0 ([] : List (List (S34))) l1 a4).bind fun t215 => ((interlockref07_Past.f kj7 0 0 0 l2 0 0 ([] : List (List (S34))) l1 a4).bind fun t218 => ((interlocklaw07_same.f kj7 t215 t218).bind fun t221 => (if t221 = true then ((interlocklaw07_tells.f kj7 0 0 0 l2 0 0 ([] : List (List (S34))) t204).bind fun t222 => (if t222 = true then ((interlocklaw07_tells.f kj7 0 0 0 l2 0 0 ([] : List (List (S34))) l1).bind fun t223 => (some t223)) else (some false))) else (some false))))) else (some false)))) else (some false)))) else (some false))) = some r := H
       have A20 := Aside0.mk A200
       clear A200
       replace H := Option.bind_eq_some_iff.mp H
       obtain ⟨t210, A210, H⟩ := H
       replace H : (if (t209 == t210) = true then ((order_Direct.f 0 0 0 l2 0 0 ([] : List (List (S34))) l1 a3 a4).bind fun t211 => ((interlockref07_Direct.f kj7 0 0 0 l2 0 0 ([] : List (List (S34))) l1 a3 a4).bind fun t212 => (if (t211 == t212) = true then ((order_Before.f 0 0 0 l2 0 0 ([] : List (List (S34))) l1 a3 a4).bind fun t213 => ((interlockref07_Before.f kj7 0 0 0 l2 0 0 ([] : List (List (S34))) l1 a3 a4).bind fun t214 => (if (t213 == t214) = true then ((order_Past.f 0 0 0 l2 0 0 ([] : List (List (S34))) l1 a4).bind fun t215 => ((interlockref07_Past.f kj7 0 0 0 l2 0 0 ([] : List (List (S34))) l1 a4).bind fun t218 => ((interlocklaw07_same.f kj7 t215 t218).bind fun t221 => (if t221 = true then ((interlocklaw07_tells.f kj7 0 0 0 l2 0 0 ([] : List (List (S34))) t204).bind fun t222 => (if t222 = true then ((interlocklaw07_tells.f kj7 0 0 0 l2 0 0 ([] : List (List (S34))) l1).bind fun t223 => (some t223)) else (some false))) else (some false))))) else (some false)))) else (some false)))) else (some false)) = some r := H
       have A21 := Aside0.mk A210
       clear A210
       by_cases c22 : (t209 == t210) = true
       · rw [if_pos c22] at H
         have c22b0 : (t209 == t210) = true := c22
         (try (have c22b1 : decide (t209 = t210) = true := by simpa using c22))
         (try (have c22b2 : (t209 == t210) = true := by simpa using c22))
         clear c22
         replace H := Option.bind_eq_some_iff.mp H
         obtain ⟨t211, A230, H⟩ := H
         replace H : ((interlockref07_Direct.f kj7 0 0 0 l2 0 0 ([] : List (List (S34))) l1 a3 a4).bind fun t212 => (if (t211 == t212) = true then ((order_Before.f 0 0 0 l2 0 0 ([] : List (List (S34))) l1 a3 a4).bind fun t213 => ((interlockref07_Before.f kj7 0 0 0 l2 0 0 ([] : List (List (S34))) l1 a3 a4).bind fun t214 => (if (t213 == t214) = true then ((order_Past.f 0 0 0 l2 0 0 ([] : List (List (S34))) l1 a4).bind fun t215 => ((interlockref07_Past.f kj7 0 0 0 l2 0 0 ([] : List (List (S34))) l1 a4).bind fun t218 => ((interlocklaw07_same.f kj7 t215 t218).bind fun t221 => (if t221 = true then ((interlocklaw07_tells.f kj7 0 0 0 l2 0 0 ([] : List (List (S34))) t204).bind fun t222 => (if t222 = true then ((interlocklaw07_tells.f kj7 0 0 0 l2 0 0 ([] : List (List (S34))) l1).bind fun t223 => (some t223)) else (some false))) else (some false))))) else (some false)))) else (some false))) = some r := H
         have A23 := Aside0.mk A230
         clear A230
         replace H := Option.bind_eq_some_iff.mp H
         obtain ⟨t212, A240, H⟩ := H
         replace H : (if (t211 == t212) = true then ((order_Before.f 0 0 0 l2 0 0 ([] : List (List (S34))) l1 a3 a4).bind fun t213 => ((interlockref07_Before.f kj7 0 0 0 l2 0 0 ([] : List (List (S34))) l1 a3 a4).bind fun t214 => (if (t213 == t214) = true then ((order_Past.f 0 0 0 l2 0 0 ([] : List (List (S34))) l1 a4).bind fun t215 => ((interlockref07_Past.f kj7 0 0 0 l2 0 0 ([] : List (List (S34))) l1 a4).bind fun t218 => ((interlocklaw07_same.f kj7 t215 t218).bind fun t221 => (if t221 = true then ((interlocklaw07_tells.f kj7 0 0 0 l2 0 0 ([] : List (List (S34))) t204).bind fun t222 => (if t222 = true then ((interlocklaw07_tells.f kj7 0 0 0 l2 0 0 ([] : List (List (S34))) l1).bind fun t223 => (some t223)) else (some false))) else (some false))))) else (some false)))) else (some false)) = some r := H
         have A24 := Aside0.mk A240
         clear A240
         by_cases c25 : (t211 == t212) = true
         · rw [if_pos c25] at H
           have c25b0 : (t211 == t212) = true := c25
           (try (have c25b1 : decide (t211 = t212) = true := by simpa using c25))
           (try (have c25b2 : (t211 == t212) = true := by simpa using c25))
           clear c25
           replace H := Option.bind_eq_some_iff.mp H
           obtain ⟨t213, A260, H⟩ := H
           replace H : ((interlockref07_Before.f kj7 0 0 0 l2 0 0 ([] : List (List (S34))) l1 a3 a4).bind fun t214 => (if (t213 == t214) = true then ((order_Past.f 0 0 0 l2 0 0 ([] : List (List (S34))) l1 a4).bind fun t215 => ((interlockref07_Past.f kj7 0 0 0 l2 0 0 ([] : List (List (S34))) l1 a4).bind fun t218 => ((interlocklaw07_same.f kj7 t215 t218).bind fun t221 => (if t221 = true then ((interlocklaw07_tells.f kj7 0 0 0 l2 0 0 ([] : List (List (S34))) t204).bind fun t222 => (if t222 = true then ((interlocklaw07_tells.f kj7 0 0 0 l2 0 0 ([] : List (List (S34))) l1).bind fun t223 => (some t223)) else (some false))) else (some false))))) else (some false))) = some r := H
           have A26 := Aside0.mk A260
           clear A260
           replace H := Option.bind_eq_some_iff.mp H
           obtain ⟨t214, A270, H⟩ := H
           replace H : (if (t213 == t214) = true then ((order_Past.f 0 0 0 l2 0 0 ([] : List (List (S34))) l1 a4).bind fun t215 => ((interlockref07_Past.f kj7 0 0 0 l2 0 0 ([] : List (List (S34))) l1 a4).bind fun t218 => ((interlocklaw07_same.f kj7 t215 t218).bind fun t221 => (if t221 = true then ((interlocklaw07_tells.f kj7 0 0 0 l2 0 0 ([] : List (List (S34))) t204).bind fun t222 => (if t222 = true then ((interlocklaw07_tells.f kj7 0 0 0 l2 0 0 ([] : List (List (S34))) l1).bind fun t223 => (some t223)) else (some false))) else (some false))))) else (some false)) = some r := H
           have A27 := Aside0.mk A270
           clear A270
           by_cases c28 : (t213 == t214) = true
           · rw [if_pos c28] at H
             have c28b0 : (t213 == t214) = true := c28
             (try (have c28b1 : decide (t213 = t214) = true := by simpa using c28))
             (try (have c28b2 : (t213 == t214) = true := by simpa using c28))
             clear c28
             replace H := Option.bind_eq_some_iff.mp H
             obtain ⟨t215, A290, H⟩ := H
             replace H : ((interlockref07_Past.f kj7 0 0 0 l2 0 0 ([] : List (List (S34))) l1 a4).bind fun t218 => ((interlocklaw07_same.f kj7 t215 t218).bind fun t221 => (if t221 = true then ((interlocklaw07_tells.f kj7 0 0 0 l2 0 0 ([] : List (List (S34))) t204).bind fun t222 => (if t222 = true then ((interlocklaw07_tells.f kj7 0 0 0 l2 0 0 ([] : List (List (S34))) l1).bind fun t223 => (some t223)) else (some false))) else (some false)))) = some r := H
             have A29 := Aside0.mk A290
             clear A290
             replace H := Option.bind_eq_some_iff.mp H
             obtain ⟨t218, A300, H⟩ := H
             replace H : ((interlocklaw07_same.f kj7 t215 t218).bind fun t221 => (if t221 = true then ((interlocklaw07_tells.f kj7 0 0 0 l2 0 0 ([] : List (List (S34))) t204).bind fun t222 => (if t222 = true then ((interlocklaw07_tells.f kj7 0 0 0 l2 0 0 ([] : List (List (S34))) l1).bind fun t223 => (some t223)) else (some false))) else (some false))) = some r := H
             have A30 := Aside0.mk A300
             clear A300
             replace H := Option.bind_eq_some_iff.mp H
             obtain ⟨t221, A310, H⟩ := H
             replace H : (if t221 = true then ((interlocklaw07_tells.f kj7 0 0 0 l2 0 0 ([] : List (List (S34))) t204).bind fun t222 => (if t222 = true then ((interlocklaw07_tells.f kj7 0 0 0 l2 0 0 ([] : List (List (S34))) l1).bind fun t223 => (some t223)) else (some false))) else (some false)) = some r := H
             have A31 := Aside0.mk A310
             clear A310
             by_cases c32 : t221 = true
             · subst c32
               have H1 : ((interlocklaw07_tells.f kj7 0 0 0 l2 0 0 ([] : List (List (S34))) t204).bind fun t222 => (if t222 = true then ((interlocklaw07_tells.f kj7 0 0 0 l2 0 0 ([] : List (List (S34))) l1).bind fun t223 => (some t223)) else (some false))) = some r := by rw [if_pos rfl] at H; exact H
               clear H
               have H := H1
               clear H1
               replace H := Option.bind_eq_some_iff.mp H
               obtain ⟨t222, A330, H⟩ := H
               replace H : (if t222 = true then ((interlocklaw07_tells.f kj7 0 0 0 l2 0 0 ([] : List (List (S34))) l1).bind fun t223 => (some t223)) else (some false)) = some r := H
               have A33 := Aside0.mk A330
               clear A330
               by_cases c34 : t222 = true
               · subst c34
                 have H1 : ((interlocklaw07_tells.f kj7 0 0 0 l2 0 0 ([] : List (List (S34))) l1).bind fun t223 => (some t223)) = some r := by rw [if_pos rfl] at H; exact H
                 clear H
                 have H := H1
                 clear H1
                 replace H := Option.bind_eq_some_iff.mp H
                 obtain ⟨t223, A350, H⟩ := H
                 replace H : (some t223) = some r := H
                 have A35 := Aside0.mk A350
                 clear A350
                 obtain rfl := Option.some.inj H
                 try go_wp2_with (first | ((with_reducible refine gate_dst (N := 15) rfl ?_); (try (refine gate_guard (by rfl) ?_; dsimp only)); refine box_event ?hg (N := 15) ?hd (cs := #[.int .i64 0, .int .i64 0, .int .i64 0, .slice none 0 0, .int .i64 0, .int .i64 0, .slice none 0 0]) (t := 30) ?hr ?_; (case hd => rfl); (case hg => rfl); (case hr => first | (go_simp; done) | (go_simp; rfl)); intro gb203 hg w36 hbox hb; have n0_ := Aside0.mk (below_step (by repeat (first | (with_reducible first | exact HB.out | apply below_alloc | apply pw_below_drewN | apply below_drew1) | exact HB.out)) hb); have n1_ := Aside0.mk (hbox); have n2_ := Aside0.mk ((by rw [hg]; exact (below_size (by repeat (first | (with_reducible first | exact HB.out | apply below_alloc | apply pw_below_drewN | apply below_drew1) | exact HB.out))) : w.heap.size ≤ gb203)); have n3_ := Aside0.mk ((by rw [hg]; exact (below_size (by repeat (first | (with_reducible first | exact HB.out | apply below_alloc | apply pw_below_drewN | apply below_drew1) | exact HB.out))) : w.heap.size ≤ gb203)); clear HB; have HB := n0_; have BK203 := n1_; have GW203 := n2_; have GE203 := n3_; clear n0_ n1_ n2_ n3_; clear hb hbox hg; have hcz37_0 : w36.cell? ⟨gb203, 0, none⟩ = some (.int .i64 0) := (blk_cell BK203.out 0).trans rfl; have hcz37_1 : w36.cell? ⟨gb203, 1, none⟩ = some (.int .i64 0) := (blk_cell BK203.out 1).trans rfl; have hcz37_2 : w36.cell? ⟨gb203, 2, none⟩ = some (.int .i64 0) := (blk_cell BK203.out 2).trans rfl; have hcz37_3 : w36.cell? ⟨gb203, 3, none⟩ = some (.slice none 0 0) := (blk_cell BK203.out 3).trans rfl; have hcz37_4 : w36.cell? ⟨gb203, 4, none⟩ = some (.int .i64 0) := (blk_cell BK203.out 4).trans rfl; have hcz37_5 : w36.cell? ⟨gb203, 5, none⟩ = some (.int .i64 0) := (blk_cell BK203.out 5).trans rfl; have hcz37_6 : w36.cell? ⟨gb203, 6, none⟩ = some (.slice none 0 0) := (blk_cell BK203.out 6).trans rfl; have hfz37_0 := blk_frozen BK203.out 0; have hfz37_1 := blk_frozen BK203.out 1; have hfz37_2 := blk_frozen BK203.out 2; have hfz37_3 := blk_frozen BK203.out 3; have hfz37_4 := blk_frozen BK203.out 4; have hfz37_5 := blk_frozen BK203.out 5; have hfz37_6 := blk_frozen BK203.out 6) | ((with_reducible refine gate_callee (f := 17) rfl ?_); refine goesL_ (some 36) rfl rfl Try.func17 (by kernel_rfl) rfl #[.slice A0 l0.length c0] rfl (by (try simp only [List.map_toArray, List.map_cons, List.map_nil]); first | done | rfl | (simp only [List.length_drop, List.length_take]; rfl)) ?_; (with_reducible refine (interlocklaw07_Trace.calls kj7 _ _ l0 t204 _ ?side1 ?side2 A16.out).mono ?_); (case side1 => exact Kd.C_below HR0.out (by repeat (first | (with_reducible first | exact HB.out | apply below_alloc | apply pw_below_drewN | apply below_drew1 | refine below_set ?_ GE203.out) | exact HB.out))); (case side2 => exact HC0.out); rintro e w38 ⟨v205, rfl, ho0, hb⟩; refine ⟨_, rfl, ?_⟩; have n0_ := Aside0.mk (Kd.R_lower ho0 (below_size (by repeat (first | (with_reducible first | exact HB.out | apply below_alloc | apply pw_below_drewN | apply below_drew1 | refine below_set ?_ GE203.out) | exact HB.out)))); have n1_ := Aside0.mk (blk_below (g := gb203) (o := .cells #[.int .i64 0, .int .i64 0, .int .i64 0, .slice A2 l2.length c2, .int .i64 0, .int .i64 0, .slice none 0 0] 30 (0, 0)) (by (with_reducible repeat (first | refine blk_drewN ?_ _ | refine blk_drew ?_ | refine blk_alloc ?_ _)); refine blk_put (cs := #[.int .i64 0, .int .i64 0, .int .i64 0, .slice A2 l2.length c2, .int .i64 0, .int .i64 0, .slice none 0 0]) ?_ 6 _ rfl; (with_reducible repeat (first | refine blk_drewN ?_ _ | refine blk_drew ?_ | refine blk_alloc ?_ _)); refine blk_put (cs := #[.int .i64 0, .int .i64 0, .int .i64 0, .slice A2 l2.length c2, .int .i64 0, .int .i64 0, .slice none 0 0]) ?_ 5 _ rfl; (with_reducible repeat (first | refine blk_drewN ?_ _ | refine blk_drew ?_ | refine blk_alloc ?_ _)); refine blk_put (cs := #[.int .i64 0, .int .i64 0, .int .i64 0, .slice A2 l2.length c2, .int .i64 0, .int .i64 0, .slice none 0 0]) ?_ 4 _ rfl; (with_reducible repeat (first | refine blk_drewN ?_ _ | refine blk_drew ?_ | refine blk_alloc ?_ _)); refine blk_put (cs := #[.int .i64 0, .int .i64 0, .int .i64 0, .slice none 0 0, .int .i64 0, .int .i64 0, .slice none 0 0]) ?_ 3 _ rfl; (with_reducible repeat (first | refine blk_drewN ?_ _ | refine blk_drew ?_ | refine blk_alloc ?_ _)); refine blk_put (cs := #[.int .i64 0, .int .i64 0, .int .i64 0, .slice none 0 0, .int .i64 0, .int .i64 0, .slice none 0 0]) ?_ 2 _ rfl; (with_reducible repeat (first | refine blk_drewN ?_ _ | refine blk_drew ?_ | refine blk_alloc ?_ _)); refine blk_put (cs := #[.int .i64 0, .int .i64 0, .int .i64 0, .slice none 0 0, .int .i64 0, .int .i64 0, .slice none 0 0]) ?_ 1 _ rfl; (with_reducible repeat (first | refine blk_drewN ?_ _ | refine blk_drew ?_ | refine blk_alloc ?_ _)); refine blk_put (cs := #[.int .i64 0, .int .i64 0, .int .i64 0, .slice none 0 0, .int .i64 0, .int .i64 0, .slice none 0 0]) ?_ 0 _ rfl; (with_reducible repeat (first | refine blk_drewN ?_ _ | refine blk_drew ?_ | refine blk_alloc ?_ _)); exact BK203.out) hb); have n2_ := Aside0.mk (below_step (by repeat (first | (with_reducible first | exact HB.out | apply below_alloc | apply pw_below_drewN | apply below_drew1 | refine below_set ?_ GE203.out) | exact HB.out)) hb); clear BK203; clear HB; have HO206 := n0_; have BK203 := n1_; have HB := n2_; clear n0_ n1_ n2_; (try clear hb); (try clear hb2); (try clear hk); (try clear hi); (try clear ho0)))
                 have n0_ := Aside0.mk (Kd.R_drew HO206.out)
                 have n1_ := Aside0.mk (blk_drew BK203.out)
                 have n2_ := Aside0.mk (below_drew1 HB.out)
                 clear HO206
                 clear BK203
                 clear HB
                 have HO206 := n0_
                 have BK203 := n1_
                 have HB := n2_
                 clear n0_ n1_ n2_
                 obtain ⟨Ao40, co40, eo40⟩ := Kd.R_slice HO206.out
                 (first | subst eo40 | (injection eo40 with f1_ f2_ f3_; have f4_ := f1_.symm; have f5_ := f3_.symm; clear f1_ f2_ f3_; subst f4_; subst f5_))
                 refine start_ (n := 62) (S := fun w' => w'.cell? ⟨gb203, 0, none⟩ = some (.int .i64 0) ∧ w'.cell? ⟨gb203, 1, none⟩ = some (.int .i64 0) ∧ w'.cell? ⟨gb203, 2, none⟩ = some (.int .i64 0) ∧ w'.cell? ⟨gb203, 3, none⟩ = some (.slice A2 l2.length c2) ∧ w'.cell? ⟨gb203, 4, none⟩ = some (.int .i64 0) ∧ w'.cell? ⟨gb203, 5, none⟩ = some (.int .i64 0) ∧ w'.cell? ⟨gb203, 6, none⟩ = some (.slice none 0 0)) (ds := []) (bl 62 0) (by kernel_rfl) rfl rfl ⟨(blk_cell BK203.out 0).trans rfl, (blk_cell BK203.out 1).trans rfl, (blk_cell BK203.out 2).trans rfl, (blk_cell BK203.out 3).trans rfl, (blk_cell BK203.out 4).trans rfl, (blk_cell BK203.out 5).trans rfl, (blk_cell BK203.out 6).trans rfl⟩ (fun hHeld => ?_); refine with_tabW interlocklaw07_OrderRaw.tab7 interlocklaw07_OrderRaw.bits7 (fun HT_ HW_ => ?_)
                 generalize w38.drew = w39 at HO206 BK203 HB hHeld ⊢
                 refine pure_ (i := 1) (N := some 44) (v := ?_) (a' := ?_) (bl 62 2) rfl rfl (any_of HT_.out (by kernel_rfl)) (fun _ _ _ h => h) (Or.inl ⟨by rfl, ?_⟩) ?_ ?_
                 rotate_left
                 · intro w'
                   go_simp
                   with_reducible rfl
                 rotate_left
                 · simp only [Act.put, List.setIfInBounds_toArray, List.set_cons_zero, List.set_cons_succ, i64_w, i32_w]
                   rfl
                 refine pure_ (i := 2) (N := some 45) (v := ?_) (a' := ?_) (bl 62 6) rfl rfl (any_of HT_.out (by kernel_rfl)) (fun _ _ _ h => h) (Or.inl ⟨by rfl, ?_⟩) ?_ ?_
                 rotate_left
                 · intro w'
                   go_simp
                   with_reducible rfl
                 rotate_left
                 · simp only [Act.put, List.setIfInBounds_toArray, List.set_cons_zero, List.set_cons_succ, i64_w, i32_w]
                   rfl
                 refine pure_ (i := 3) (N := some 46) (v := ?_) (a' := ?_) (bl 62 14) rfl rfl (any_of HT_.out (by kernel_rfl)) (fun _ _ _ h => h) (Or.inl ⟨by rfl, ?_⟩) ?_ ?_
                 rotate_left
                 · intro w'
                   go_simp
                   with_reducible rfl
                 rotate_left
                 · simp only [Act.put, List.setIfInBounds_toArray, List.set_cons_zero, List.set_cons_succ, i64_w, i32_w]
                   rfl
                 refine pure_ (i := 6) (N := some 49) (v := ?_) (a' := ?_) (bl 62 78) rfl rfl (any_of HT_.out (by kernel_rfl)) (fun _ _ _ h => h) (Or.inl ⟨by rfl, ?_⟩) ?_ ?_
                 rotate_left
                 · intro w'
                   go_simp
                   with_reducible rfl
                 rotate_left
                 · simp only [Act.put, List.setIfInBounds_toArray, List.set_cons_zero, List.set_cons_succ, i64_w, i32_w]
                   rfl
                 refine pure_ (i := 7) (N := some 50) (v := ?_) (a' := ?_) (bl 62 206) rfl rfl (any_of HT_.out (by kernel_rfl)) (fun _ _ _ h => h) (Or.inl ⟨by rfl, ?_⟩) ?_ ?_
                 rotate_left
                 · intro w'
                   go_simp
                   with_reducible rfl
                 rotate_left
                 · simp only [Act.put, List.setIfInBounds_toArray, List.set_cons_zero, List.set_cons_succ, i64_w, i32_w]
                   rfl
                 refine pure_ (i := 8) (N := some 51) (v := ?_) (a' := ?_) (bl 62 462) rfl rfl (any_of HT_.out (by kernel_rfl)) (fun _ _ _ h => h) (Or.inl ⟨by rfl, ?_⟩) ?_ ?_
                 rotate_left
                 · intro w'
                   go_simp
                   with_reducible rfl
                 rotate_left
                 · simp only [Act.put, List.setIfInBounds_toArray, List.set_cons_zero, List.set_cons_succ, i64_w, i32_w]
                   rfl
                 refine take_ (i := 0) (N := some 43) (v := ?_) (a' := ?_) (bl 62 463) rfl rfl (take_ofW HT_.out HW_.out (by kernel_rfl)) (fun _ _ _ h => h) (Or.inl ⟨by rfl, ?_⟩) hHeld ?_ ?_
                 rotate_left
                 · rintro w' ⟨s0, s1, s2, s3, s4, s5, s6⟩
                   go_simp
                   with_reducible rfl
                 rotate_left
                 · simp only [Act.put, List.setIfInBounds_toArray, List.set_cons_zero, List.set_cons_succ, i64_w, i32_w]
                   rfl
                 refine take_ (i := 5) (N := some 48) (v := ?_) (a' := ?_) (bl 62 495) rfl rfl (take_ofW HT_.out HW_.out (by kernel_rfl)) (fun _ _ _ h => h) (Or.inl ⟨by rfl, ?_⟩) hHeld ?_ ?_
                 rotate_left
                 · rintro w' ⟨s0, s1, s2, s3, s4, s5, s6⟩
                   go_simp
                   with_reducible rfl
                 rotate_left
                 · simp only [Act.put, List.setIfInBounds_toArray, List.set_cons_zero, List.set_cons_succ, i64_w, i32_w]
                   rfl
                 refine one_ (i := 4) (N := some 47) (bl 62 511) rfl rfl (one_of HT_.out (by kernel_rfl)) (by decide) (fun K hK => ?_)
                 refine goes_ Try.func18 (by kernel_rfl) rfl #[.agg #[.int .i64 0, .int .i64 0, .int .i64 0, .slice A2 l2.length c2, .int .i64 0, .int .i64 0, .slice none 0 0], .slice Ao40 t204.length co40, .int .i64 (wrap64 (Int.tmod a5 26)), .int .i64 (wrap64 (Int.tmod a6 26))] (by rfl) rfl rfl (by (try simp only [List.map_toArray, List.map_cons, List.map_nil]); first | done | rfl | (simp only [List.length_drop, List.length_take]; rfl)) ?_
                 refine (order_Direct.calls 0 0 0 _ _ l2 0 0 _ _ ([] : List (List (S34))) _ _ t204 (wrap64 (Int.tmod a5 26)) (wrap64 (Int.tmod a6 26)) t207 _ ?side1 ?side2 ?side3 ?side4 ?side5 ?side6 A17.out).mono ?_
                 (case side1 => repeat (first | exact (Kd.C_below HR2.out HB.out) | (with_reducible refine Kd.C_alloc ?_ _) | (with_reducible refine Kd.C_drewN ?_ _) | (with_reducible refine Kd.C_drew ?_)))
                 (case side2 => exact HC2.out)
                 (case side3 => exact Kd.C_nil _ _)
                 (case side4 => exact Nat.le_refl _)
                 (case side5 => repeat (first | exact (Kd.R_reads' HO206.out).2.2 | (with_reducible refine Kd.C_alloc ?_ _) | (with_reducible refine Kd.C_drewN ?_ _) | (with_reducible refine Kd.C_drew ?_)))
                 (case side6 => exact (Kd.R_reads' HO206.out).2.1)
                 rintro e w41 ⟨rfl, hb⟩
                 refine ⟨_, rfl, ?_⟩
                 have n0_ := Aside0.mk (Kd.R_below (by (with_reducible repeat (first | apply Kd.R_alloc | apply Kd.R_drewN | apply Kd.R_drew)); exact HO206.out) hb)
                 have n1_ := Aside0.mk (blk_below (g := gb203) (o := .cells #[.int .i64 0, .int .i64 0, .int .i64 0, .slice A2 l2.length c2, .int .i64 0, .int .i64 0, .slice none 0 0] 30 (0, 0)) (by (with_reducible repeat (first | refine blk_drewN ?_ _ | refine blk_drew ?_ | refine blk_alloc ?_ _)); exact BK203.out) hb)
                 have n2_ := Aside0.mk (below_step (by repeat (first | (with_reducible first | exact HB.out | apply below_alloc | apply pw_below_drewN | apply below_drew1 | refine below_set ?_ GE203.out) | exact HB.out)) hb)
                 clear HO206
                 clear BK203
                 clear HB
                 have HO206 := n0_
                 have BK203 := n1_
                 have HB := n2_
                 clear n0_ n1_ n2_
                 (try clear hb)
                 (try clear hb2)
                 (try clear hk)
                 (try clear hi)
                 refine hK.out _ _ ⟨(blk_cell BK203.out 0).trans rfl, (blk_cell BK203.out 1).trans rfl, (blk_cell BK203.out 2).trans rfl, (blk_cell BK203.out 3).trans rfl, (blk_cell BK203.out 4).trans rfl, (blk_cell BK203.out 5).trans rfl, (blk_cell BK203.out 6).trans rfl⟩ (fun hHeld => ?_)
                 clear hK K
                 refine norm_ (a' := ?_) ?_ ?_
                 rotate_left
                 · show Act.put _ (some 47) _ = _
                   simp only [Act.put, List.setIfInBounds_toArray, List.set_cons_zero, List.set_cons_succ, i64_w, i32_w]
                   rfl
                 refine one_ (i := 9) (N := some 52) (bl 62 1023) rfl rfl (one_of HT_.out (by kernel_rfl)) (by decide) (fun K hK => ?_)
                 refine goes_ Try.func19 (by kernel_rfl) rfl #[.agg #[.int .i64 0, .int .i64 0, .int .i64 0, .slice A2 l2.length c2, .int .i64 0, .int .i64 0, .slice none 0 0], .slice Ao40 t204.length co40, .int .i64 (wrap64 (Int.tmod a5 26)), .int .i64 (wrap64 (Int.tmod a6 26))] (by rfl) rfl rfl (by (try simp only [List.map_toArray, List.map_cons, List.map_nil]); first | done | rfl | (simp only [List.length_drop, List.length_take]; rfl)) ?_
                 refine (interlockref07_Direct.calls kj7 0 0 0 _ _ l2 0 0 _ _ ([] : List (List (S34))) _ _ t204 (wrap64 (Int.tmod a5 26)) (wrap64 (Int.tmod a6 26)) t208 _ ?side1 ?side2 ?side3 ?side4 ?side5 ?side6 A18.out).mono ?_
                 (case side1 => repeat (first | exact (Kd.C_below HR2.out HB.out) | (with_reducible refine Kd.C_alloc ?_ _) | (with_reducible refine Kd.C_drewN ?_ _) | (with_reducible refine Kd.C_drew ?_)))
                 (case side2 => exact HC2.out)
                 (case side3 => exact Kd.C_nil _ _)
                 (case side4 => exact Nat.le_refl _)
                 (case side5 => repeat (first | exact (Kd.R_reads' HO206.out).2.2 | (with_reducible refine Kd.C_alloc ?_ _) | (with_reducible refine Kd.C_drewN ?_ _) | (with_reducible refine Kd.C_drew ?_)))
                 (case side6 => exact (Kd.R_reads' HO206.out).2.1)
                 rintro e w42 ⟨rfl, hb⟩
                 refine ⟨_, rfl, ?_⟩
                 have n0_ := Aside0.mk (Kd.R_below (by (with_reducible repeat (first | apply Kd.R_alloc | apply Kd.R_drewN | apply Kd.R_drew)); exact HO206.out) hb)
                 have n1_ := Aside0.mk (blk_below (g := gb203) (o := .cells #[.int .i64 0, .int .i64 0, .int .i64 0, .slice A2 l2.length c2, .int .i64 0, .int .i64 0, .slice none 0 0] 30 (0, 0)) (by (with_reducible repeat (first | refine blk_drewN ?_ _ | refine blk_drew ?_ | refine blk_alloc ?_ _)); exact BK203.out) hb)
                 have n2_ := Aside0.mk (below_step (by repeat (first | (with_reducible first | exact HB.out | apply below_alloc | apply pw_below_drewN | apply below_drew1 | refine below_set ?_ GE203.out) | exact HB.out)) hb)
                 clear HO206
                 clear BK203
                 clear HB
                 have HO206 := n0_
                 have BK203 := n1_
                 have HB := n2_
                 clear n0_ n1_ n2_
                 (try clear hb)
                 (try clear hb2)
                 (try clear hk)
                 (try clear hi)
                 refine hK.out _ _ ⟨(blk_cell BK203.out 0).trans rfl, (blk_cell BK203.out 1).trans rfl, (blk_cell BK203.out 2).trans rfl, (blk_cell BK203.out 3).trans rfl, (blk_cell BK203.out 4).trans rfl, (blk_cell BK203.out 5).trans rfl, (blk_cell BK203.out 6).trans rfl⟩ (fun hHeld => ?_)
                 clear hK K
                 refine norm_ (a' := ?_) ?_ ?_
                 rotate_left
                 · show Act.put _ (some 52) _ = _
                   simp only [Act.put, List.setIfInBounds_toArray, List.set_cons_zero, List.set_cons_succ, i64_w, i32_w]
                   rfl
                 refine pure_ (i := 10) (N := some 53) (v := ?_) (a' := ?_) (bl 62 2047) rfl rfl (any_of HT_.out (by kernel_rfl)) (fun _ _ _ h => h) (Or.inl ⟨by rfl, ?_⟩) ?_ ?_
                 rotate_left
                 · intro w'
                   go_simp
                   with_reducible rfl
                 rotate_left
                 · simp only [Act.put, List.setIfInBounds_toArray, List.set_cons_zero, List.set_cons_succ, i64_w, i32_w]
                   rfl
                 refine pure_ (i := 11) (N := some 54) (v := ?_) (a' := ?_) (bl 62 4095) rfl rfl (any_of HT_.out (by kernel_rfl)) (fun _ _ _ h => h) (Or.inl ⟨by rfl, ?_⟩) ?_ ?_
                 rotate_left
                 · intro w'
                   go_simp
                   with_reducible rfl
                 rotate_left
                 · simp only [Act.put, List.setIfInBounds_toArray, List.set_cons_zero, List.set_cons_succ, i64_w, i32_w]
                   rfl
                 refine pure_ (i := 13) (N := some 56) (v := ?_) (a' := ?_) (bl 62 12287) rfl rfl (any_of HT_.out (by kernel_rfl)) (fun _ _ _ h => h) (Or.inl ⟨by rfl, ?_⟩) ?_ ?_
                 rotate_left
                 · intro w'
                   go_simp
                   with_reducible rfl
                 rotate_left
                 · simp only [Act.put, List.setIfInBounds_toArray, List.set_cons_zero, List.set_cons_succ, i64_w, i32_w]
                   rfl
                 refine pure_ (i := 14) (N := some 57) (v := ?_) (a' := ?_) (bl 62 28671) rfl rfl (any_of HT_.out (by kernel_rfl)) (fun _ _ _ h => h) (Or.inl ⟨by rfl, ?_⟩) ?_ ?_
                 rotate_left
                 · intro w'
                   go_simp
                   with_reducible rfl
                 rotate_left
                 · simp only [Act.put, List.setIfInBounds_toArray, List.set_cons_zero, List.set_cons_succ, i64_w, i32_w]
                   rfl
                 refine pure_ (i := 15) (N := some 58) (v := ?_) (a' := ?_) (bl 62 61439) rfl rfl (any_of HT_.out (by kernel_rfl)) (fun _ _ _ h => h) (Or.inl ⟨by rfl, ?_⟩) ?_ ?_
                 rotate_left
                 · intro w'
                   go_simp
                   with_reducible rfl
                 rotate_left
                 · simp only [Act.put, List.setIfInBounds_toArray, List.set_cons_zero, List.set_cons_succ, i64_w, i32_w]
                   rfl
                 refine pure_ (i := 18) (N := some 61) (v := ?_) (a' := ?_) (bl 62 323583) rfl rfl (any_of HT_.out (by kernel_rfl)) (fun _ _ _ h => h) (Or.inl ⟨by rfl, ?_⟩) ?_ ?_
                 rotate_left
                 · intro w'
                   go_simp
                   with_reducible rfl
                 rotate_left
                 · simp only [Act.put, List.setIfInBounds_toArray, List.set_cons_zero, List.set_cons_succ, i64_w, i32_w]
                   rfl
                 refine pure_ (i := 19) (N := some 62) (v := ?_) (a' := ?_) (bl 62 847871) rfl rfl (any_of HT_.out (by kernel_rfl)) (fun _ _ _ h => h) (Or.inl ⟨by rfl, ?_⟩) ?_ ?_
                 rotate_left
                 · intro w'
                   go_simp
                   with_reducible rfl
                 rotate_left
                 · simp only [Act.put, List.setIfInBounds_toArray, List.set_cons_zero, List.set_cons_succ, i64_w, i32_w]
                   rfl
                 refine pure_ (i := 20) (N := some 63) (v := ?_) (a' := ?_) (bl 62 1896447) rfl rfl (any_of HT_.out (by kernel_rfl)) (fun _ _ _ h => h) (Or.inl ⟨by rfl, ?_⟩) ?_ ?_
                 rotate_left
                 · intro w'
                   go_simp
                   with_reducible rfl
                 rotate_left
                 · simp only [Act.put, List.setIfInBounds_toArray, List.set_cons_zero, List.set_cons_succ, i64_w, i32_w]
                   rfl
                 refine take_ (i := 12) (N := some 55) (v := ?_) (a' := ?_) (bl 62 1900543) rfl rfl (take_ofW HT_.out HW_.out (by kernel_rfl)) (fun _ _ _ h => h) (Or.inl ⟨by rfl, ?_⟩) hHeld ?_ ?_
                 rotate_left
                 · rintro w' ⟨s0, s1, s2, s3, s4, s5, s6⟩
                   go_simp
                   with_reducible rfl
                 rotate_left
                 · simp only [Act.put, List.setIfInBounds_toArray, List.set_cons_zero, List.set_cons_succ, i64_w, i32_w]
                   rfl
                 refine take_ (i := 17) (N := some 60) (v := ?_) (a' := ?_) (bl 62 2031615) rfl rfl (take_ofW HT_.out HW_.out (by kernel_rfl)) (fun _ _ _ h => h) (Or.inl ⟨by rfl, ?_⟩) hHeld ?_ ?_
                 rotate_left
                 · rintro w' ⟨s0, s1, s2, s3, s4, s5, s6⟩
                   go_simp
                   with_reducible rfl
                 rotate_left
                 · simp only [Act.put, List.setIfInBounds_toArray, List.set_cons_zero, List.set_cons_succ, i64_w, i32_w]
                   rfl
                 refine one_ (i := 16) (N := some 59) (bl 62 2097151) rfl rfl (one_of HT_.out (by kernel_rfl)) (by decide) (fun K hK => ?_)
                 refine goes_ Try.func11 (by kernel_rfl) rfl #[.agg #[.int .i64 0, .int .i64 0, .int .i64 0, .slice A2 l2.length c2, .int .i64 0, .int .i64 0, .slice none 0 0], .slice Ao40 t204.length co40, .int .i64 (wrap64 (Int.tmod a5 26)), .int .i64 (wrap64 (Int.tmod a6 26))] (by rfl) rfl rfl (by (try simp only [List.map_toArray, List.map_cons, List.map_nil]); first | done | rfl | (simp only [List.length_drop, List.length_take]; rfl)) ?_
                 refine (order_Before.calls 0 0 0 _ _ l2 0 0 _ _ ([] : List (List (S34))) _ _ t204 (wrap64 (Int.tmod a5 26)) (wrap64 (Int.tmod a6 26)) t209 _ ?side1 ?side2 ?side3 ?side4 ?side5 ?side6 A20.out).mono ?_
                 (case side1 => repeat (first | exact (Kd.C_below HR2.out HB.out) | (with_reducible refine Kd.C_alloc ?_ _) | (with_reducible refine Kd.C_drewN ?_ _) | (with_reducible refine Kd.C_drew ?_)))
                 (case side2 => exact HC2.out)
                 (case side3 => exact Kd.C_nil _ _)
                 (case side4 => exact Nat.le_refl _)
                 (case side5 => repeat (first | exact (Kd.R_reads' HO206.out).2.2 | (with_reducible refine Kd.C_alloc ?_ _) | (with_reducible refine Kd.C_drewN ?_ _) | (with_reducible refine Kd.C_drew ?_)))
                 (case side6 => exact (Kd.R_reads' HO206.out).2.1)
                 rintro e w43 ⟨rfl, hb⟩
                 refine ⟨_, rfl, ?_⟩
                 have n0_ := Aside0.mk (Kd.R_below (by (with_reducible repeat (first | apply Kd.R_alloc | apply Kd.R_drewN | apply Kd.R_drew)); exact HO206.out) hb)
                 have n1_ := Aside0.mk (blk_below (g := gb203) (o := .cells #[.int .i64 0, .int .i64 0, .int .i64 0, .slice A2 l2.length c2, .int .i64 0, .int .i64 0, .slice none 0 0] 30 (0, 0)) (by (with_reducible repeat (first | refine blk_drewN ?_ _ | refine blk_drew ?_ | refine blk_alloc ?_ _)); exact BK203.out) hb)
                 have n2_ := Aside0.mk (below_step (by repeat (first | (with_reducible first | exact HB.out | apply below_alloc | apply pw_below_drewN | apply below_drew1 | refine below_set ?_ GE203.out) | exact HB.out)) hb)
                 clear HO206
                 clear BK203
                 clear HB
                 have HO206 := n0_
                 have BK203 := n1_
                 have HB := n2_
                 clear n0_ n1_ n2_
                 (try clear hb)
                 (try clear hb2)
                 (try clear hk)
                 (try clear hi)
                 refine hK.out _ _ ⟨(blk_cell BK203.out 0).trans rfl, (blk_cell BK203.out 1).trans rfl, (blk_cell BK203.out 2).trans rfl, (blk_cell BK203.out 3).trans rfl, (blk_cell BK203.out 4).trans rfl, (blk_cell BK203.out 5).trans rfl, (blk_cell BK203.out 6).trans rfl⟩ (fun hHeld => ?_)
                 clear hK K
                 refine norm_ (a' := ?_) ?_ ?_
                 rotate_left
                 · show Act.put _ (some 59) _ = _
                   simp only [Act.put, List.setIfInBounds_toArray, List.set_cons_zero, List.set_cons_succ, i64_w, i32_w]
                   rfl
                 refine one_ (i := 21) (N := some 64) (bl 62 4194303) rfl rfl (one_of HT_.out (by kernel_rfl)) (by decide) (fun K hK => ?_)
                 refine goes_ Try.func20 (by kernel_rfl) rfl #[.agg #[.int .i64 0, .int .i64 0, .int .i64 0, .slice A2 l2.length c2, .int .i64 0, .int .i64 0, .slice none 0 0], .slice Ao40 t204.length co40, .int .i64 (wrap64 (Int.tmod a5 26)), .int .i64 (wrap64 (Int.tmod a6 26))] (by rfl) rfl rfl (by (try simp only [List.map_toArray, List.map_cons, List.map_nil]); first | done | rfl | (simp only [List.length_drop, List.length_take]; rfl)) ?_
                 refine (interlockref07_Before.calls kj7 0 0 0 _ _ l2 0 0 _ _ ([] : List (List (S34))) _ _ t204 (wrap64 (Int.tmod a5 26)) (wrap64 (Int.tmod a6 26)) t210 _ ?side1 ?side2 ?side3 ?side4 ?side5 ?side6 A21.out).mono ?_
                 (case side1 => repeat (first | exact (Kd.C_below HR2.out HB.out) | (with_reducible refine Kd.C_alloc ?_ _) | (with_reducible refine Kd.C_drewN ?_ _) | (with_reducible refine Kd.C_drew ?_)))
                 (case side2 => exact HC2.out)
                 (case side3 => exact Kd.C_nil _ _)
                 (case side4 => exact Nat.le_refl _)
                 (case side5 => repeat (first | exact (Kd.R_reads' HO206.out).2.2 | (with_reducible refine Kd.C_alloc ?_ _) | (with_reducible refine Kd.C_drewN ?_ _) | (with_reducible refine Kd.C_drew ?_)))
                 (case side6 => exact (Kd.R_reads' HO206.out).2.1)
                 rintro e w44 ⟨rfl, hb⟩
                 refine ⟨_, rfl, ?_⟩
                 have n0_ := Aside0.mk (Kd.R_below (by (with_reducible repeat (first | apply Kd.R_alloc | apply Kd.R_drewN | apply Kd.R_drew)); exact HO206.out) hb)
                 have n1_ := Aside0.mk (blk_below (g := gb203) (o := .cells #[.int .i64 0, .int .i64 0, .int .i64 0, .slice A2 l2.length c2, .int .i64 0, .int .i64 0, .slice none 0 0] 30 (0, 0)) (by (with_reducible repeat (first | refine blk_drewN ?_ _ | refine blk_drew ?_ | refine blk_alloc ?_ _)); exact BK203.out) hb)
                 have n2_ := Aside0.mk (below_step (by repeat (first | (with_reducible first | exact HB.out | apply below_alloc | apply pw_below_drewN | apply below_drew1 | refine below_set ?_ GE203.out) | exact HB.out)) hb)
                 clear HO206
                 clear BK203
                 clear HB
                 have HO206 := n0_
                 have BK203 := n1_
                 have HB := n2_
                 clear n0_ n1_ n2_
                 (try clear hb)
                 (try clear hb2)
                 (try clear hk)
                 (try clear hi)
                 refine hK.out _ _ ⟨(blk_cell BK203.out 0).trans rfl, (blk_cell BK203.out 1).trans rfl, (blk_cell BK203.out 2).trans rfl, (blk_cell BK203.out 3).trans rfl, (blk_cell BK203.out 4).trans rfl, (blk_cell BK203.out 5).trans rfl, (blk_cell BK203.out 6).trans rfl⟩ (fun hHeld => ?_)
                 clear hK K
                 refine norm_ (a' := ?_) ?_ ?_
                 rotate_left
                 · show Act.put _ (some 64) _ = _
                   simp only [Act.put, List.setIfInBounds_toArray, List.set_cons_zero, List.set_cons_succ, i64_w, i32_w]
                   rfl
                 refine pure_ (i := 22) (N := some 65) (v := ?_) (a' := ?_) (bl 62 8388607) rfl rfl (any_of HT_.out (by kernel_rfl)) (fun _ _ _ h => h) (Or.inl ⟨by rfl, ?_⟩) ?_ ?_
                 rotate_left
                 · intro w'
                   go_simp
                   with_reducible rfl
                 rotate_left
                 · simp only [Act.put, List.setIfInBounds_toArray, List.set_cons_zero, List.set_cons_succ, i64_w, i32_w]
                   rfl
                 refine pure_ (i := 23) (N := some 66) (v := ?_) (a' := ?_) (bl 62 16777215) rfl rfl (any_of HT_.out (by kernel_rfl)) (fun _ _ _ h => h) (Or.inl ⟨by rfl, ?_⟩) ?_ ?_
                 rotate_left
                 · intro w'
                   go_simp
                   with_reducible rfl
                 rotate_left
                 · simp only [Act.put, List.setIfInBounds_toArray, List.set_cons_zero, List.set_cons_succ, i64_w, i32_w]
                   rfl
                 refine pure_ (i := 24) (N := some 67) (v := ?_) (a' := ?_) (bl 62 33554431) rfl rfl (any_of HT_.out (by kernel_rfl)) (fun _ _ _ h => h) (Or.inl ⟨by rfl, ?_⟩) ?_ ?_
                 rotate_left
                 · intro w'
                   go_simp
                   with_reducible rfl
                 rotate_left
                 · simp only [Act.put, List.setIfInBounds_toArray, List.set_cons_zero, List.set_cons_succ, i64_w, i32_w]
                   rfl
                 refine pure_ (i := 26) (N := some 69) (v := ?_) (a' := ?_) (bl 62 100663295) rfl rfl (any_of HT_.out (by kernel_rfl)) (fun _ _ _ h => h) (Or.inl ⟨by rfl, ?_⟩) ?_ ?_
                 rotate_left
                 · intro w'
                   go_simp
                   with_reducible rfl
                 rotate_left
                 · simp only [Act.put, List.setIfInBounds_toArray, List.set_cons_zero, List.set_cons_succ, i64_w, i32_w]
                   rfl
                 refine pure_ (i := 27) (N := some 70) (v := ?_) (a' := ?_) (bl 62 234881023) rfl rfl (any_of HT_.out (by kernel_rfl)) (fun _ _ _ h => h) (Or.inl ⟨by rfl, ?_⟩) ?_ ?_
                 rotate_left
                 · intro w'
                   go_simp
                   with_reducible rfl
                 rotate_left
                 · simp only [Act.put, List.setIfInBounds_toArray, List.set_cons_zero, List.set_cons_succ, i64_w, i32_w]
                   rfl
                 refine pure_ (i := 28) (N := some 71) (v := ?_) (a' := ?_) (bl 62 503316479) rfl rfl (any_of HT_.out (by kernel_rfl)) (fun _ _ _ h => h) (Or.inl ⟨by rfl, ?_⟩) ?_ ?_
                 rotate_left
                 · intro w'
                   go_simp
                   with_reducible rfl
                 rotate_left
                 · simp only [Act.put, List.setIfInBounds_toArray, List.set_cons_zero, List.set_cons_succ, i64_w, i32_w]
                   rfl
                 refine pure_ (i := 31) (N := some 74) (v := ?_) (a' := ?_) (bl 62 2650800127) rfl rfl (any_of HT_.out (by kernel_rfl)) (fun _ _ _ h => h) (Or.inl ⟨by rfl, ?_⟩) ?_ ?_
                 rotate_left
                 · intro w'
                   go_simp
                   with_reducible rfl
                 rotate_left
                 · simp only [Act.put, List.setIfInBounds_toArray, List.set_cons_zero, List.set_cons_succ, i64_w, i32_w]
                   rfl
                 refine pure_ (i := 32) (N := some 75) (v := ?_) (a' := ?_) (bl 62 6945767423) rfl rfl (any_of HT_.out (by kernel_rfl)) (fun _ _ _ h => h) (Or.inl ⟨by rfl, ?_⟩) ?_ ?_
                 rotate_left
                 · intro w'
                   go_simp
                   with_reducible rfl
                 rotate_left
                 · simp only [Act.put, List.setIfInBounds_toArray, List.set_cons_zero, List.set_cons_succ, i64_w, i32_w]
                   rfl
                 refine pure_ (i := 33) (N := some 76) (v := ?_) (a' := ?_) (bl 62 15535702015) rfl rfl (any_of HT_.out (by kernel_rfl)) (fun _ _ _ h => h) (Or.inl ⟨by rfl, ?_⟩) ?_ ?_
                 rotate_left
                 · intro w'
                   go_simp
                   with_reducible rfl
                 rotate_left
                 · simp only [Act.put, List.setIfInBounds_toArray, List.set_cons_zero, List.set_cons_succ, i64_w, i32_w]
                   rfl
                 refine take_ (i := 25) (N := some 68) (v := ?_) (a' := ?_) (bl 62 15569256447) rfl rfl (take_ofW HT_.out HW_.out (by kernel_rfl)) (fun _ _ _ h => h) (Or.inl ⟨by rfl, ?_⟩) hHeld ?_ ?_
                 rotate_left
                 · rintro w' ⟨s0, s1, s2, s3, s4, s5, s6⟩
                   go_simp
                   with_reducible rfl
                 rotate_left
                 · simp only [Act.put, List.setIfInBounds_toArray, List.set_cons_zero, List.set_cons_succ, i64_w, i32_w]
                   rfl
                 refine take_ (i := 30) (N := some 73) (v := ?_) (a' := ?_) (bl 62 16642998271) rfl rfl (take_ofW HT_.out HW_.out (by kernel_rfl)) (fun _ _ _ h => h) (Or.inl ⟨by rfl, ?_⟩) hHeld ?_ ?_
                 rotate_left
                 · rintro w' ⟨s0, s1, s2, s3, s4, s5, s6⟩
                   go_simp
                   with_reducible rfl
                 rotate_left
                 · simp only [Act.put, List.setIfInBounds_toArray, List.set_cons_zero, List.set_cons_succ, i64_w, i32_w]
                   rfl
                 refine one_ (i := 29) (N := some 72) (bl 62 17179869183) rfl rfl (one_of HT_.out (by kernel_rfl)) (by decide) (fun K hK => ?_)
                 refine goes_ Try.func18 (by kernel_rfl) rfl #[.agg #[.int .i64 0, .int .i64 0, .int .i64 0, .slice A2 l2.length c2, .int .i64 0, .int .i64 0, .slice none 0 0], .slice A1 l1.length c1, .int .i64 a3, .int .i64 a4] (by rfl) rfl rfl (by (try simp only [List.map_toArray, List.map_cons, List.map_nil]); first | done | rfl | (simp only [List.length_drop, List.length_take]; rfl)) ?_
                 refine (order_Direct.calls 0 0 0 _ _ l2 0 0 _ _ ([] : List (List (S34))) _ _ l1 a3 a4 t211 _ ?side1 ?side2 ?side3 ?side4 ?side5 ?side6 A23.out).mono ?_
                 (case side1 => repeat (first | exact (Kd.C_below HR2.out HB.out) | (with_reducible refine Kd.C_alloc ?_ _) | (with_reducible refine Kd.C_drewN ?_ _) | (with_reducible refine Kd.C_drew ?_)))
                 (case side2 => exact HC2.out)
                 (case side3 => exact Kd.C_nil _ _)
                 (case side4 => exact Nat.le_refl _)
                 (case side5 => repeat (first | exact (Kd.C_below HR1.out HB.out) | (with_reducible refine Kd.C_alloc ?_ _) | (with_reducible refine Kd.C_drewN ?_ _) | (with_reducible refine Kd.C_drew ?_)))
                 (case side6 => exact HC1.out)
                 rintro e w45 ⟨rfl, hb⟩
                 refine ⟨_, rfl, ?_⟩
                 have n0_ := Aside0.mk (Kd.R_below (by (with_reducible repeat (first | apply Kd.R_alloc | apply Kd.R_drewN | apply Kd.R_drew)); exact HO206.out) hb)
                 have n1_ := Aside0.mk (blk_below (g := gb203) (o := .cells #[.int .i64 0, .int .i64 0, .int .i64 0, .slice A2 l2.length c2, .int .i64 0, .int .i64 0, .slice none 0 0] 30 (0, 0)) (by (with_reducible repeat (first | refine blk_drewN ?_ _ | refine blk_drew ?_ | refine blk_alloc ?_ _)); exact BK203.out) hb)
                 have n2_ := Aside0.mk (below_step (by repeat (first | (with_reducible first | exact HB.out | apply below_alloc | apply pw_below_drewN | apply below_drew1 | refine below_set ?_ GE203.out) | exact HB.out)) hb)
                 clear HO206
                 clear BK203
                 clear HB
                 have HO206 := n0_
                 have BK203 := n1_
                 have HB := n2_
                 clear n0_ n1_ n2_
                 (try clear hb)
                 (try clear hb2)
                 (try clear hk)
                 (try clear hi)
                 refine hK.out _ _ ⟨(blk_cell BK203.out 0).trans rfl, (blk_cell BK203.out 1).trans rfl, (blk_cell BK203.out 2).trans rfl, (blk_cell BK203.out 3).trans rfl, (blk_cell BK203.out 4).trans rfl, (blk_cell BK203.out 5).trans rfl, (blk_cell BK203.out 6).trans rfl⟩ (fun hHeld => ?_)
                 clear hK K
                 refine norm_ (a' := ?_) ?_ ?_
                 rotate_left
                 · show Act.put _ (some 72) _ = _
                   simp only [Act.put, List.setIfInBounds_toArray, List.set_cons_zero, List.set_cons_succ, i64_w, i32_w]
                   rfl
                 refine one_ (i := 34) (N := some 77) (bl 62 34359738367) rfl rfl (one_of HT_.out (by kernel_rfl)) (by decide) (fun K hK => ?_)
                 refine goes_ Try.func19 (by kernel_rfl) rfl #[.agg #[.int .i64 0, .int .i64 0, .int .i64 0, .slice A2 l2.length c2, .int .i64 0, .int .i64 0, .slice none 0 0], .slice A1 l1.length c1, .int .i64 a3, .int .i64 a4] (by rfl) rfl rfl (by (try simp only [List.map_toArray, List.map_cons, List.map_nil]); first | done | rfl | (simp only [List.length_drop, List.length_take]; rfl)) ?_
                 refine (interlockref07_Direct.calls kj7 0 0 0 _ _ l2 0 0 _ _ ([] : List (List (S34))) _ _ l1 a3 a4 t212 _ ?side1 ?side2 ?side3 ?side4 ?side5 ?side6 A24.out).mono ?_
                 (case side1 => repeat (first | exact (Kd.C_below HR2.out HB.out) | (with_reducible refine Kd.C_alloc ?_ _) | (with_reducible refine Kd.C_drewN ?_ _) | (with_reducible refine Kd.C_drew ?_)))
                 (case side2 => exact HC2.out)
                 (case side3 => exact Kd.C_nil _ _)
                 (case side4 => exact Nat.le_refl _)
                 (case side5 => repeat (first | exact (Kd.C_below HR1.out HB.out) | (with_reducible refine Kd.C_alloc ?_ _) | (with_reducible refine Kd.C_drewN ?_ _) | (with_reducible refine Kd.C_drew ?_)))
                 (case side6 => exact HC1.out)
                 rintro e w46 ⟨rfl, hb⟩
                 refine ⟨_, rfl, ?_⟩
                 have n0_ := Aside0.mk (Kd.R_below (by (with_reducible repeat (first | apply Kd.R_alloc | apply Kd.R_drewN | apply Kd.R_drew)); exact HO206.out) hb)
                 have n1_ := Aside0.mk (blk_below (g := gb203) (o := .cells #[.int .i64 0, .int .i64 0, .int .i64 0, .slice A2 l2.length c2, .int .i64 0, .int .i64 0, .slice none 0 0] 30 (0, 0)) (by (with_reducible repeat (first | refine blk_drewN ?_ _ | refine blk_drew ?_ | refine blk_alloc ?_ _)); exact BK203.out) hb)
                 have n2_ := Aside0.mk (below_step (by repeat (first | (with_reducible first | exact HB.out | apply below_alloc | apply pw_below_drewN | apply below_drew1 | refine below_set ?_ GE203.out) | exact HB.out)) hb)
                 clear HO206
                 clear BK203
                 clear HB
                 have HO206 := n0_
                 have BK203 := n1_
                 have HB := n2_
                 clear n0_ n1_ n2_
                 (try clear hb)
                 (try clear hb2)
                 (try clear hk)
                 (try clear hi)
                 refine hK.out _ _ ⟨(blk_cell BK203.out 0).trans rfl, (blk_cell BK203.out 1).trans rfl, (blk_cell BK203.out 2).trans rfl, (blk_cell BK203.out 3).trans rfl, (blk_cell BK203.out 4).trans rfl, (blk_cell BK203.out 5).trans rfl, (blk_cell BK203.out 6).trans rfl⟩ (fun hHeld => ?_)
                 clear hK K
                 refine norm_ (a' := ?_) ?_ ?_
                 rotate_left
                 · show Act.put _ (some 77) _ = _
                   simp only [Act.put, List.setIfInBounds_toArray, List.set_cons_zero, List.set_cons_succ, i64_w, i32_w]
                   rfl
                 refine pure_ (i := 35) (N := some 78) (v := ?_) (a' := ?_) (bl 62 68719476735) rfl rfl (any_of HT_.out (by kernel_rfl)) (fun _ _ _ h => h) (Or.inl ⟨by rfl, ?_⟩) ?_ ?_
                 rotate_left
                 · intro w'
                   go_simp
                   with_reducible rfl
                 rotate_left
                 · simp only [Act.put, List.setIfInBounds_toArray, List.set_cons_zero, List.set_cons_succ, i64_w, i32_w]
                   rfl
                 refine pure_ (i := 36) (N := some 79) (v := ?_) (a' := ?_) (bl 62 137438953471) rfl rfl (any_of HT_.out (by kernel_rfl)) (fun _ _ _ h => h) (Or.inl ⟨by rfl, ?_⟩) ?_ ?_
                 rotate_left
                 · intro w'
                   go_simp
                   with_reducible rfl
                 rotate_left
                 · simp only [Act.put, List.setIfInBounds_toArray, List.set_cons_zero, List.set_cons_succ, i64_w, i32_w]
                   rfl
                 refine pure_ (i := 37) (N := some 80) (v := ?_) (a' := ?_) (bl 62 274877906943) rfl rfl (any_of HT_.out (by kernel_rfl)) (fun _ _ _ h => h) (Or.inl ⟨by rfl, ?_⟩) ?_ ?_
                 rotate_left
                 · intro w'
                   go_simp
                   with_reducible rfl
                 rotate_left
                 · simp only [Act.put, List.setIfInBounds_toArray, List.set_cons_zero, List.set_cons_succ, i64_w, i32_w]
                   rfl
                 refine pure_ (i := 39) (N := some 82) (v := ?_) (a' := ?_) (bl 62 824633720831) rfl rfl (any_of HT_.out (by kernel_rfl)) (fun _ _ _ h => h) (Or.inl ⟨by rfl, ?_⟩) ?_ ?_
                 rotate_left
                 · intro w'
                   go_simp
                   with_reducible rfl
                 rotate_left
                 · simp only [Act.put, List.setIfInBounds_toArray, List.set_cons_zero, List.set_cons_succ, i64_w, i32_w]
                   rfl
                 refine pure_ (i := 40) (N := some 83) (v := ?_) (a' := ?_) (bl 62 1924145348607) rfl rfl (any_of HT_.out (by kernel_rfl)) (fun _ _ _ h => h) (Or.inl ⟨by rfl, ?_⟩) ?_ ?_
                 rotate_left
                 · intro w'
                   go_simp
                   with_reducible rfl
                 rotate_left
                 · simp only [Act.put, List.setIfInBounds_toArray, List.set_cons_zero, List.set_cons_succ, i64_w, i32_w]
                   rfl
                 refine pure_ (i := 41) (N := some 84) (v := ?_) (a' := ?_) (bl 62 4123168604159) rfl rfl (any_of HT_.out (by kernel_rfl)) (fun _ _ _ h => h) (Or.inl ⟨by rfl, ?_⟩) ?_ ?_
                 rotate_left
                 · intro w'
                   go_simp
                   with_reducible rfl
                 rotate_left
                 · simp only [Act.put, List.setIfInBounds_toArray, List.set_cons_zero, List.set_cons_succ, i64_w, i32_w]
                   rfl
                 refine pure_ (i := 44) (N := some 87) (v := ?_) (a' := ?_) (bl 62 21715354648575) rfl rfl (any_of HT_.out (by kernel_rfl)) (fun _ _ _ h => h) (Or.inl ⟨by rfl, ?_⟩) ?_ ?_
                 rotate_left
                 · intro w'
                   go_simp
                   with_reducible rfl
                 rotate_left
                 · simp only [Act.put, List.setIfInBounds_toArray, List.set_cons_zero, List.set_cons_succ, i64_w, i32_w]
                   rfl
                 refine pure_ (i := 45) (N := some 88) (v := ?_) (a' := ?_) (bl 62 56899726737407) rfl rfl (any_of HT_.out (by kernel_rfl)) (fun _ _ _ h => h) (Or.inl ⟨by rfl, ?_⟩) ?_ ?_
                 rotate_left
                 · intro w'
                   go_simp
                   with_reducible rfl
                 rotate_left
                 · simp only [Act.put, List.setIfInBounds_toArray, List.set_cons_zero, List.set_cons_succ, i64_w, i32_w]
                   rfl
                 refine pure_ (i := 46) (N := some 89) (v := ?_) (a' := ?_) (bl 62 127268470915071) rfl rfl (any_of HT_.out (by kernel_rfl)) (fun _ _ _ h => h) (Or.inl ⟨by rfl, ?_⟩) ?_ ?_
                 rotate_left
                 · intro w'
                   go_simp
                   with_reducible rfl
                 rotate_left
                 · simp only [Act.put, List.setIfInBounds_toArray, List.set_cons_zero, List.set_cons_succ, i64_w, i32_w]
                   rfl
                 refine take_ (i := 38) (N := some 81) (v := ?_) (a' := ?_) (bl 62 127543348822015) rfl rfl (take_ofW HT_.out HW_.out (by kernel_rfl)) (fun _ _ _ h => h) (Or.inl ⟨by rfl, ?_⟩) hHeld ?_ ?_
                 rotate_left
                 · rintro w' ⟨s0, s1, s2, s3, s4, s5, s6⟩
                   go_simp
                   with_reducible rfl
                 rotate_left
                 · simp only [Act.put, List.setIfInBounds_toArray, List.set_cons_zero, List.set_cons_succ, i64_w, i32_w]
                   rfl
                 refine take_ (i := 43) (N := some 86) (v := ?_) (a' := ?_) (bl 62 136339441844223) rfl rfl (take_ofW HT_.out HW_.out (by kernel_rfl)) (fun _ _ _ h => h) (Or.inl ⟨by rfl, ?_⟩) hHeld ?_ ?_
                 rotate_left
                 · rintro w' ⟨s0, s1, s2, s3, s4, s5, s6⟩
                   go_simp
                   with_reducible rfl
                 rotate_left
                 · simp only [Act.put, List.setIfInBounds_toArray, List.set_cons_zero, List.set_cons_succ, i64_w, i32_w]
                   rfl
                 refine one_ (i := 42) (N := some 85) (bl 62 140737488355327) rfl rfl (one_of HT_.out (by kernel_rfl)) (by decide) (fun K hK => ?_)
                 refine goes_ Try.func11 (by kernel_rfl) rfl #[.agg #[.int .i64 0, .int .i64 0, .int .i64 0, .slice A2 l2.length c2, .int .i64 0, .int .i64 0, .slice none 0 0], .slice A1 l1.length c1, .int .i64 a3, .int .i64 a4] (by rfl) rfl rfl (by (try simp only [List.map_toArray, List.map_cons, List.map_nil]); first | done | rfl | (simp only [List.length_drop, List.length_take]; rfl)) ?_
                 refine (order_Before.calls 0 0 0 _ _ l2 0 0 _ _ ([] : List (List (S34))) _ _ l1 a3 a4 t213 _ ?side1 ?side2 ?side3 ?side4 ?side5 ?side6 A26.out).mono ?_
                 (case side1 => repeat (first | exact (Kd.C_below HR2.out HB.out) | (with_reducible refine Kd.C_alloc ?_ _) | (with_reducible refine Kd.C_drewN ?_ _) | (with_reducible refine Kd.C_drew ?_)))
                 (case side2 => exact HC2.out)
                 (case side3 => exact Kd.C_nil _ _)
                 (case side4 => exact Nat.le_refl _)
                 (case side5 => repeat (first | exact (Kd.C_below HR1.out HB.out) | (with_reducible refine Kd.C_alloc ?_ _) | (with_reducible refine Kd.C_drewN ?_ _) | (with_reducible refine Kd.C_drew ?_)))
                 (case side6 => exact HC1.out)
                 rintro e w47 ⟨rfl, hb⟩
                 refine ⟨_, rfl, ?_⟩
                 have n0_ := Aside0.mk (Kd.R_below (by (with_reducible repeat (first | apply Kd.R_alloc | apply Kd.R_drewN | apply Kd.R_drew)); exact HO206.out) hb)
                 have n1_ := Aside0.mk (blk_below (g := gb203) (o := .cells #[.int .i64 0, .int .i64 0, .int .i64 0, .slice A2 l2.length c2, .int .i64 0, .int .i64 0, .slice none 0 0] 30 (0, 0)) (by (with_reducible repeat (first | refine blk_drewN ?_ _ | refine blk_drew ?_ | refine blk_alloc ?_ _)); exact BK203.out) hb)
                 have n2_ := Aside0.mk (below_step (by repeat (first | (with_reducible first | exact HB.out | apply below_alloc | apply pw_below_drewN | apply below_drew1 | refine below_set ?_ GE203.out) | exact HB.out)) hb)
                 clear HO206
                 clear BK203
                 clear HB
                 have HO206 := n0_
                 have BK203 := n1_
                 have HB := n2_
                 clear n0_ n1_ n2_
                 (try clear hb)
                 (try clear hb2)
                 (try clear hk)
                 (try clear hi)
                 refine hK.out _ _ ⟨(blk_cell BK203.out 0).trans rfl, (blk_cell BK203.out 1).trans rfl, (blk_cell BK203.out 2).trans rfl, (blk_cell BK203.out 3).trans rfl, (blk_cell BK203.out 4).trans rfl, (blk_cell BK203.out 5).trans rfl, (blk_cell BK203.out 6).trans rfl⟩ (fun hHeld => ?_)
                 clear hK K
                 refine norm_ (a' := ?_) ?_ ?_
                 rotate_left
                 · show Act.put _ (some 85) _ = _
                   simp only [Act.put, List.setIfInBounds_toArray, List.set_cons_zero, List.set_cons_succ, i64_w, i32_w]
                   rfl
                 refine one_ (i := 47) (N := some 90) (bl 62 281474976710655) rfl rfl (one_of HT_.out (by kernel_rfl)) (by decide) (fun K hK => ?_)
                 refine goes_ Try.func20 (by kernel_rfl) rfl #[.agg #[.int .i64 0, .int .i64 0, .int .i64 0, .slice A2 l2.length c2, .int .i64 0, .int .i64 0, .slice none 0 0], .slice A1 l1.length c1, .int .i64 a3, .int .i64 a4] (by rfl) rfl rfl (by (try simp only [List.map_toArray, List.map_cons, List.map_nil]); first | done | rfl | (simp only [List.length_drop, List.length_take]; rfl)) ?_
                 refine (interlockref07_Before.calls kj7 0 0 0 _ _ l2 0 0 _ _ ([] : List (List (S34))) _ _ l1 a3 a4 t214 _ ?side1 ?side2 ?side3 ?side4 ?side5 ?side6 A27.out).mono ?_
                 (case side1 => repeat (first | exact (Kd.C_below HR2.out HB.out) | (with_reducible refine Kd.C_alloc ?_ _) | (with_reducible refine Kd.C_drewN ?_ _) | (with_reducible refine Kd.C_drew ?_)))
                 (case side2 => exact HC2.out)
                 (case side3 => exact Kd.C_nil _ _)
                 (case side4 => exact Nat.le_refl _)
                 (case side5 => repeat (first | exact (Kd.C_below HR1.out HB.out) | (with_reducible refine Kd.C_alloc ?_ _) | (with_reducible refine Kd.C_drewN ?_ _) | (with_reducible refine Kd.C_drew ?_)))
                 (case side6 => exact HC1.out)
                 rintro e w48 ⟨rfl, hb⟩
                 refine ⟨_, rfl, ?_⟩
                 have n0_ := Aside0.mk (Kd.R_below (by (with_reducible repeat (first | apply Kd.R_alloc | apply Kd.R_drewN | apply Kd.R_drew)); exact HO206.out) hb)
                 have n1_ := Aside0.mk (blk_below (g := gb203) (o := .cells #[.int .i64 0, .int .i64 0, .int .i64 0, .slice A2 l2.length c2, .int .i64 0, .int .i64 0, .slice none 0 0] 30 (0, 0)) (by (with_reducible repeat (first | refine blk_drewN ?_ _ | refine blk_drew ?_ | refine blk_alloc ?_ _)); exact BK203.out) hb)
                 have n2_ := Aside0.mk (below_step (by repeat (first | (with_reducible first | exact HB.out | apply below_alloc | apply pw_below_drewN | apply below_drew1 | refine below_set ?_ GE203.out) | exact HB.out)) hb)
                 clear HO206
                 clear BK203
                 clear HB
                 have HO206 := n0_
                 have BK203 := n1_
                 have HB := n2_
                 clear n0_ n1_ n2_
                 (try clear hb)
                 (try clear hb2)
                 (try clear hk)
                 (try clear hi)
                 refine hK.out _ _ ⟨(blk_cell BK203.out 0).trans rfl, (blk_cell BK203.out 1).trans rfl, (blk_cell BK203.out 2).trans rfl, (blk_cell BK203.out 3).trans rfl, (blk_cell BK203.out 4).trans rfl, (blk_cell BK203.out 5).trans rfl, (blk_cell BK203.out 6).trans rfl⟩ (fun hHeld => ?_)
                 clear hK K
                 refine norm_ (a' := ?_) ?_ ?_
                 rotate_left
                 · show Act.put _ (some 90) _ = _
                   simp only [Act.put, List.setIfInBounds_toArray, List.set_cons_zero, List.set_cons_succ, i64_w, i32_w]
                   rfl
                 refine pure_ (i := 48) (N := some 91) (v := ?_) (a' := ?_) (bl 62 562949953421311) rfl rfl (any_of HT_.out (by kernel_rfl)) (fun _ _ _ h => h) (Or.inl ⟨by rfl, ?_⟩) ?_ ?_
                 rotate_left
                 · intro w'
                   go_simp
                   with_reducible rfl
                 rotate_left
                 · simp only [Act.put, List.setIfInBounds_toArray, List.set_cons_zero, List.set_cons_succ, i64_w, i32_w]
                   rfl
                 refine pure_ (i := 49) (N := some 92) (v := ?_) (a' := ?_) (bl 62 1125899906842623) rfl rfl (any_of HT_.out (by kernel_rfl)) (fun _ _ _ h => h) (Or.inl ⟨by rfl, ?_⟩) ?_ ?_
                 rotate_left
                 · intro w'
                   go_simp
                   with_reducible rfl
                 rotate_left
                 · simp only [Act.put, List.setIfInBounds_toArray, List.set_cons_zero, List.set_cons_succ, i64_w, i32_w]
                   rfl
                 refine pure_ (i := 50) (N := some 93) (v := ?_) (a' := ?_) (bl 62 2251799813685247) rfl rfl (any_of HT_.out (by kernel_rfl)) (fun _ _ _ h => h) (Or.inl ⟨by rfl, ?_⟩) ?_ ?_
                 rotate_left
                 · intro w'
                   go_simp
                   with_reducible rfl
                 rotate_left
                 · simp only [Act.put, List.setIfInBounds_toArray, List.set_cons_zero, List.set_cons_succ, i64_w, i32_w]
                   rfl
                 refine pure_ (i := 52) (N := some 95) (v := ?_) (a' := ?_) (bl 62 6755399441055743) rfl rfl (any_of HT_.out (by kernel_rfl)) (fun _ _ _ h => h) (Or.inl ⟨by rfl, ?_⟩) ?_ ?_
                 rotate_left
                 · intro w'
                   go_simp
                   with_reducible rfl
                 rotate_left
                 · simp only [Act.put, List.setIfInBounds_toArray, List.set_cons_zero, List.set_cons_succ, i64_w, i32_w]
                   rfl
                 refine pure_ (i := 53) (N := some 96) (v := ?_) (a' := ?_) (bl 62 15762598695796735) rfl rfl (any_of HT_.out (by kernel_rfl)) (fun _ _ _ h => h) (Or.inl ⟨by rfl, ?_⟩) ?_ ?_
                 rotate_left
                 · intro w'
                   go_simp
                   with_reducible rfl
                 rotate_left
                 · simp only [Act.put, List.setIfInBounds_toArray, List.set_cons_zero, List.set_cons_succ, i64_w, i32_w]
                   rfl
                 refine pure_ (i := 56) (N := some 99) (v := ?_) (a' := ?_) (bl 62 87820192733724671) rfl rfl (any_of HT_.out (by kernel_rfl)) (fun _ _ _ h => h) (Or.inl ⟨by rfl, ?_⟩) ?_ ?_
                 rotate_left
                 · intro w'
                   go_simp
                   with_reducible rfl
                 rotate_left
                 · simp only [Act.put, List.setIfInBounds_toArray, List.set_cons_zero, List.set_cons_succ, i64_w, i32_w]
                   rfl
                 refine pure_ (i := 57) (N := some 100) (v := ?_) (a' := ?_) (bl 62 231935380809580543) rfl rfl (any_of HT_.out (by kernel_rfl)) (fun _ _ _ h => h) (Or.inl ⟨by rfl, ?_⟩) ?_ ?_
                 rotate_left
                 · intro w'
                   go_simp
                   with_reducible rfl
                 rotate_left
                 · simp only [Act.put, List.setIfInBounds_toArray, List.set_cons_zero, List.set_cons_succ, i64_w, i32_w]
                   rfl
                 refine take_ (i := 51) (N := some 94) (v := ?_) (a' := ?_) (bl 62 234187180623265791) rfl rfl (take_ofW HT_.out HW_.out (by kernel_rfl)) (fun _ _ _ h => h) (Or.inl ⟨by rfl, ?_⟩) hHeld ?_ ?_
                 rotate_left
                 · rintro w' ⟨s0, s1, s2, s3, s4, s5, s6⟩
                   go_simp
                   with_reducible rfl
                 rotate_left
                 · simp only [Act.put, List.setIfInBounds_toArray, List.set_cons_zero, List.set_cons_succ, i64_w, i32_w]
                   rfl
                 refine take_ (i := 55) (N := some 98) (v := ?_) (a' := ?_) (bl 62 270215977642229759) rfl rfl (take_ofW HT_.out HW_.out (by kernel_rfl)) (fun _ _ _ h => h) (Or.inl ⟨by rfl, ?_⟩) hHeld ?_ ?_
                 rotate_left
                 · rintro w' ⟨s0, s1, s2, s3, s4, s5, s6⟩
                   go_simp
                   with_reducible rfl
                 rotate_left
                 · simp only [Act.put, List.setIfInBounds_toArray, List.set_cons_zero, List.set_cons_succ, i64_w, i32_w]
                   rfl
                 refine one_ (i := 54) (N := some 97) (bl 62 288230376151711743) rfl rfl (one_of HT_.out (by kernel_rfl)) (by decide) (fun K hK => ?_)
                 refine goes_ Try.func22 (by kernel_rfl) rfl #[.agg #[.int .i64 0, .int .i64 0, .int .i64 0, .slice A2 l2.length c2, .int .i64 0, .int .i64 0, .slice none 0 0], .slice A1 l1.length c1, .int .i64 a4] (by rfl) rfl rfl (by (try simp only [List.map_toArray, List.map_cons, List.map_nil]); first | done | rfl | (simp only [List.length_drop, List.length_take]; rfl)) ?_
                 refine (order_Past.calls 0 0 0 _ _ l2 0 0 _ _ ([] : List (List (S34))) _ _ l1 a4 t215 _ ?side1 ?side2 ?side3 ?side4 ?side5 ?side6 A29.out).mono ?_
                 (case side1 => repeat (first | exact (Kd.C_below HR2.out HB.out) | (with_reducible refine Kd.C_alloc ?_ _) | (with_reducible refine Kd.C_drewN ?_ _) | (with_reducible refine Kd.C_drew ?_)))
                 (case side2 => exact HC2.out)
                 (case side3 => exact Kd.C_nil _ _)
                 (case side4 => exact Nat.le_refl _)
                 (case side5 => repeat (first | exact (Kd.C_below HR1.out HB.out) | (with_reducible refine Kd.C_alloc ?_ _) | (with_reducible refine Kd.C_drewN ?_ _) | (with_reducible refine Kd.C_drew ?_)))
                 (case side6 => exact HC1.out)
                 rintro e w49 ⟨v216, rfl, ho0, hb⟩
                 refine ⟨_, rfl, ?_⟩
                 have n0_ := Aside0.mk (Kd.R_below (by (with_reducible repeat (first | apply Kd.R_alloc | apply Kd.R_drewN | apply Kd.R_drew)); exact HO206.out) hb)
                 have n1_ := Aside0.mk (Kd.R_lower ho0 (below_size (by repeat (first | (with_reducible first | exact HB.out | apply below_alloc | apply pw_below_drewN | apply below_drew1 | refine below_set ?_ GE203.out) | exact HB.out))))
                 have n2_ := Aside0.mk (blk_below (g := gb203) (o := .cells #[.int .i64 0, .int .i64 0, .int .i64 0, .slice A2 l2.length c2, .int .i64 0, .int .i64 0, .slice none 0 0] 30 (0, 0)) (by (with_reducible repeat (first | refine blk_drewN ?_ _ | refine blk_drew ?_ | refine blk_alloc ?_ _)); exact BK203.out) hb)
                 have n3_ := Aside0.mk (below_step (by repeat (first | (with_reducible first | exact HB.out | apply below_alloc | apply pw_below_drewN | apply below_drew1 | refine below_set ?_ GE203.out) | exact HB.out)) hb)
                 clear HO206
                 clear BK203
                 clear HB
                 have HO206 := n0_
                 have HO217 := n1_
                 have BK203 := n2_
                 have HB := n3_
                 clear n0_ n1_ n2_ n3_
                 (try clear hb)
                 (try clear hb2)
                 (try clear hk)
                 (try clear hi)
                 (try clear ho0)
                 refine hK.out _ _ ⟨(blk_cell BK203.out 0).trans rfl, (blk_cell BK203.out 1).trans rfl, (blk_cell BK203.out 2).trans rfl, (blk_cell BK203.out 3).trans rfl, (blk_cell BK203.out 4).trans rfl, (blk_cell BK203.out 5).trans rfl, (blk_cell BK203.out 6).trans rfl⟩ (fun hHeld => ?_)
                 clear hK K
                 refine norm_ (a' := ?_) ?_ ?_
                 rotate_left
                 · show Act.put _ (some 97) _ = _
                   simp only [Act.put, List.setIfInBounds_toArray, List.set_cons_zero, List.set_cons_succ, i64_w, i32_w]
                   rfl
                 refine one_ (i := 58) (N := some 101) (bl 62 576460752303423487) rfl rfl (one_of HT_.out (by kernel_rfl)) (by decide) (fun K hK => ?_)
                 refine goes_ Try.func23 (by kernel_rfl) rfl #[.agg #[.int .i64 0, .int .i64 0, .int .i64 0, .slice A2 l2.length c2, .int .i64 0, .int .i64 0, .slice none 0 0], .slice A1 l1.length c1, .int .i64 a4] (by rfl) rfl rfl (by (try simp only [List.map_toArray, List.map_cons, List.map_nil]); first | done | rfl | (simp only [List.length_drop, List.length_take]; rfl)) ?_
                 refine (interlockref07_Past.calls kj7 0 0 0 _ _ l2 0 0 _ _ ([] : List (List (S34))) _ _ l1 a4 t218 _ ?side1 ?side2 ?side3 ?side4 ?side5 ?side6 A30.out).mono ?_
                 (case side1 => repeat (first | exact (Kd.C_below HR2.out HB.out) | (with_reducible refine Kd.C_alloc ?_ _) | (with_reducible refine Kd.C_drewN ?_ _) | (with_reducible refine Kd.C_drew ?_)))
                 (case side2 => exact HC2.out)
                 (case side3 => exact Kd.C_nil _ _)
                 (case side4 => exact Nat.le_refl _)
                 (case side5 => repeat (first | exact (Kd.C_below HR1.out HB.out) | (with_reducible refine Kd.C_alloc ?_ _) | (with_reducible refine Kd.C_drewN ?_ _) | (with_reducible refine Kd.C_drew ?_)))
                 (case side6 => exact HC1.out)
                 rintro e w50 ⟨v219, rfl, ho0, hb⟩
                 refine ⟨_, rfl, ?_⟩
                 have n0_ := Aside0.mk (Kd.R_below (by (with_reducible repeat (first | apply Kd.R_alloc | apply Kd.R_drewN | apply Kd.R_drew)); exact HO206.out) hb)
                 have n1_ := Aside0.mk (Kd.R_elder' (by (with_reducible repeat (first | apply Kd.R_alloc | apply Kd.R_drewN | apply Kd.R_drew)); exact HO217.out) (Kd.R_base ho0) hb)
                 have n2_ := Aside0.mk (Kd.R_lower (Kd.R_new' ho0 (Kd.R_lt (by (with_reducible repeat (first | apply Kd.R_alloc | apply Kd.R_drewN | apply Kd.R_drew)); exact HO217.out))) (below_size (by repeat (first | (with_reducible first | exact HB.out | apply below_alloc | apply pw_below_drewN | apply below_drew1 | refine below_set ?_ GE203.out) | exact HB.out))))
                 have n3_ := Aside0.mk (blk_below (g := gb203) (o := .cells #[.int .i64 0, .int .i64 0, .int .i64 0, .slice A2 l2.length c2, .int .i64 0, .int .i64 0, .slice none 0 0] 30 (0, 0)) (by (with_reducible repeat (first | refine blk_drewN ?_ _ | refine blk_drew ?_ | refine blk_alloc ?_ _)); exact BK203.out) hb)
                 have n4_ := Aside0.mk (below_step (by repeat (first | (with_reducible first | exact HB.out | apply below_alloc | apply pw_below_drewN | apply below_drew1 | refine below_set ?_ GE203.out) | exact HB.out)) hb)
                 clear HO206
                 clear HO217
                 clear BK203
                 clear HB
                 have HO206 := n0_
                 have HO217 := n1_
                 have HO220 := n2_
                 have BK203 := n3_
                 have HB := n4_
                 clear n0_ n1_ n2_ n3_ n4_
                 (try clear hb)
                 (try clear hb2)
                 (try clear hk)
                 (try clear hi)
                 (try clear ho0)
                 obtain ⟨Ao51, co51, eo51⟩ := Kd.R_slice HO217.out
                 (first | subst eo51 | (injection eo51 with f1_ f2_ f3_; have f4_ := f1_.symm; have f5_ := f3_.symm; clear f1_ f2_ f3_; subst f4_; subst f5_))
                 obtain ⟨Ao52, co52, eo52⟩ := Kd.R_slice HO220.out
                 (first | subst eo52 | (injection eo52 with f1_ f2_ f3_; have f4_ := f1_.symm; have f5_ := f3_.symm; clear f1_ f2_ f3_; subst f4_; subst f5_))
                 refine hK.out _ _ ⟨(blk_cell BK203.out 0).trans rfl, (blk_cell BK203.out 1).trans rfl, (blk_cell BK203.out 2).trans rfl, (blk_cell BK203.out 3).trans rfl, (blk_cell BK203.out 4).trans rfl, (blk_cell BK203.out 5).trans rfl, (blk_cell BK203.out 6).trans rfl⟩ (fun hHeld => ?_)
                 clear hK K
                 refine norm_ (a' := ?_) ?_ ?_
                 rotate_left
                 · show Act.put _ (some 101) _ = _
                   simp only [Act.put, List.setIfInBounds_toArray, List.set_cons_zero, List.set_cons_succ, i64_w, i32_w]
                   rfl
                 refine one_ (i := 59) (N := some 102) (bl 62 1152921504606846975) rfl rfl (one_of HT_.out (by kernel_rfl)) (by decide) (fun K hK => ?_)
                 refine goes_ Try.func21 (by kernel_rfl) rfl #[.slice Ao51 t215.length co51, .slice Ao52 t218.length co52] (by rfl) rfl rfl (by (try simp only [List.map_toArray, List.map_cons, List.map_nil]); first | done | rfl | (simp only [List.length_drop, List.length_take]; rfl)) ?_
                 with_reducible refine (interlocklaw07_same.calls kj7 _ _ t215 _ _ t218 true _ ?side1 ?side2 ?side3 ?side4 A31.out).mono ?_
                 (case side1 => repeat (first | exact (Kd.R_reads' HO217.out).2.2 | (with_reducible refine Kd.C_alloc ?_ _) | (with_reducible refine Kd.C_drewN ?_ _) | (with_reducible refine Kd.C_drew ?_)))
                 (case side2 => exact (Kd.R_reads' HO217.out).2.1)
                 (case side3 => repeat (first | exact (Kd.R_reads' HO220.out).2.2 | (with_reducible refine Kd.C_alloc ?_ _) | (with_reducible refine Kd.C_drewN ?_ _) | (with_reducible refine Kd.C_drew ?_)))
                 (case side4 => exact (Kd.R_reads' HO220.out).2.1)
                 rintro e w' ⟨rfl, ⟨nd, rfl⟩⟩
                 refine ⟨_, rfl, ?_⟩
                 refine hK.out _ _ ⟨(blk_cell BK203.out 0).trans rfl, (blk_cell BK203.out 1).trans rfl, (blk_cell BK203.out 2).trans rfl, (blk_cell BK203.out 3).trans rfl, (blk_cell BK203.out 4).trans rfl, (blk_cell BK203.out 5).trans rfl, (blk_cell BK203.out 6).trans rfl⟩ (fun hHeld => ?_)
                 clear hK K
                 refine norm_ (a' := ?_) ?_ ?_
                 rotate_left
                 · show Act.put _ (some 102) _ = _
                   simp only [Act.put, List.setIfInBounds_toArray, List.set_cons_zero, List.set_cons_succ, i64_w, i32_w]
                   rfl
                 refine pure_ (i := 60) (N := some 103) (v := ?_) (a' := ?_) (bl 62 2305843009213693951) rfl rfl (any_of HT_.out (by kernel_rfl)) (fun _ _ _ h => h) (Or.inl ⟨by rfl, ?_⟩) ?_ ?_
                 rotate_left
                 · intro w'
                   go_simp
                   with_reducible rfl
                 rotate_left
                 · simp only [Act.put, List.setIfInBounds_toArray, List.set_cons_zero, List.set_cons_succ, i64_w, i32_w]
                   rfl
                 refine pure_ (i := 61) (N := some 19) (v := ?_) (a' := ?_) (bl 62 4611686018427387903) rfl rfl (any_of HT_.out (by kernel_rfl)) (fun _ _ _ h => h) (Or.inl ⟨by rfl, ?_⟩) ?_ ?_
                 rotate_left
                 · intro w'
                   go_simp
                   with_reducible rfl
                 rotate_left
                 · simp only [Act.put, List.setIfInBounds_toArray, List.set_cons_zero, List.set_cons_succ, i64_w, i32_w]
                   rfl
                 refine done_ (done_of HT_.out (by kernel_rfl)) ?_
                 have hcz53_0 : w50.cell? ⟨gb203, 0, none⟩ = some (.int .i64 0) := (blk_cell BK203.out 0).trans rfl
                 have hcz53_1 : w50.cell? ⟨gb203, 1, none⟩ = some (.int .i64 0) := (blk_cell BK203.out 1).trans rfl
                 have hcz53_2 : w50.cell? ⟨gb203, 2, none⟩ = some (.int .i64 0) := (blk_cell BK203.out 2).trans rfl
                 have hcz53_3 : w50.cell? ⟨gb203, 3, none⟩ = some (.slice A2 l2.length c2) := (blk_cell BK203.out 3).trans rfl
                 have hcz53_4 : w50.cell? ⟨gb203, 4, none⟩ = some (.int .i64 0) := (blk_cell BK203.out 4).trans rfl
                 have hcz53_5 : w50.cell? ⟨gb203, 5, none⟩ = some (.int .i64 0) := (blk_cell BK203.out 5).trans rfl
                 have hcz53_6 : w50.cell? ⟨gb203, 6, none⟩ = some (.slice none 0 0) := (blk_cell BK203.out 6).trans rfl
                 have hfz53_0 := blk_frozen BK203.out 0
                 have hfz53_1 := blk_frozen BK203.out 1
                 have hfz53_2 := blk_frozen BK203.out 2
                 have hfz53_3 := blk_frozen BK203.out 3
                 have hfz53_4 := blk_frozen BK203.out 4
                 have hfz53_5 := blk_frozen BK203.out 5
                 have hfz53_6 := blk_frozen BK203.out 6
                 try go_wp2_with (first | (go_at_call 16; (refine (interlocklaw07_tells.calls kj7 0 0 0 _ _ l2 0 0 _ _ ([] : List (List (S34))) _ _ t204 true _ ?side1 ?side2 ?side3 ?side4 ?side5 ?side6 A33.out).mono ?_); (case side1 => repeat (first | exact (Kd.C_below HR2.out (by repeat (first | (with_reducible first | exact HB.out | apply below_alloc | apply pw_below_drewN | apply below_drew1 | refine below_set ?_ GE203.out) | exact HB.out))) | (with_reducible refine Kd.C_alloc ?_ _) | (with_reducible refine Kd.C_drewN ?_ _) | (with_reducible refine Kd.C_drew ?_))); (case side2 => exact HC2.out); (case side3 => exact Kd.C_nil _ _); (case side4 => exact Nat.le_refl _); (case side5 => repeat (first | exact (Kd.R_reads' HO206.out).2.2 | (with_reducible refine Kd.C_alloc ?_ _) | (with_reducible refine Kd.C_drewN ?_ _) | (with_reducible refine Kd.C_drew ?_))); (case side6 => exact (Kd.R_reads' HO206.out).2.1); rintro e w54 ⟨rfl, hb⟩; clear A33; have n0_ := Aside0.mk (Kd.R_below (by (with_reducible repeat (first | apply Kd.R_alloc | apply Kd.R_drewN | apply Kd.R_drew)); exact HO206.out) hb); have n1_ := Aside0.mk (Kd.R_below (by (with_reducible repeat (first | apply Kd.R_alloc | apply Kd.R_drewN | apply Kd.R_drew)); exact HO217.out) hb); have n2_ := Aside0.mk (Kd.R_below (by (with_reducible repeat (first | apply Kd.R_alloc | apply Kd.R_drewN | apply Kd.R_drew)); exact HO220.out) hb); have n3_ := Aside0.mk (blk_below (g := gb203) (o := .cells #[.int .i64 0, .int .i64 0, .int .i64 0, .slice A2 l2.length c2, .int .i64 0, .int .i64 0, .slice none 0 0] 30 (0, 0)) (by (with_reducible repeat (first | refine blk_drewN ?_ _ | refine blk_drew ?_ | refine blk_alloc ?_ _)); exact BK203.out) hb); have n4_ := Aside0.mk (below_step (by repeat (first | (with_reducible first | exact HB.out | apply below_alloc | apply pw_below_drewN | apply below_drew1 | refine below_set ?_ GE203.out) | exact HB.out)) hb); clear HO206; clear HO217; clear HO220; clear BK203; clear HB; have HO206 := n0_; have HO217 := n1_; have HO220 := n2_; have BK203 := n3_; have HB := n4_; clear n0_ n1_ n2_ n3_ n4_; (try clear hb); (try clear hb2); (try clear hk); (try clear hi); have hcz55_0 : w54.cell? ⟨gb203, 0, none⟩ = some (.int .i64 0) := (blk_cell BK203.out 0).trans rfl; have hcz55_1 : w54.cell? ⟨gb203, 1, none⟩ = some (.int .i64 0) := (blk_cell BK203.out 1).trans rfl; have hcz55_2 : w54.cell? ⟨gb203, 2, none⟩ = some (.int .i64 0) := (blk_cell BK203.out 2).trans rfl; have hcz55_3 : w54.cell? ⟨gb203, 3, none⟩ = some (.slice A2 l2.length c2) := (blk_cell BK203.out 3).trans rfl; have hcz55_4 : w54.cell? ⟨gb203, 4, none⟩ = some (.int .i64 0) := (blk_cell BK203.out 4).trans rfl; have hcz55_5 : w54.cell? ⟨gb203, 5, none⟩ = some (.int .i64 0) := (blk_cell BK203.out 5).trans rfl; have hcz55_6 : w54.cell? ⟨gb203, 6, none⟩ = some (.slice none 0 0) := (blk_cell BK203.out 6).trans rfl; have hfz55_0 := blk_frozen BK203.out 0; have hfz55_1 := blk_frozen BK203.out 1; have hfz55_2 := blk_frozen BK203.out 2; have hfz55_3 := blk_frozen BK203.out 3; have hfz55_4 := blk_frozen BK203.out 4; have hfz55_5 := blk_frozen BK203.out 5; have hfz55_6 := blk_frozen BK203.out 6) | (go_at_call 16; (refine (interlocklaw07_tells.calls kj7 0 0 0 _ _ l2 0 0 _ _ ([] : List (List (S34))) _ _ l1 t223 _ ?side1 ?side2 ?side3 ?side4 ?side5 ?side6 A35.out).mono ?_); (case side1 => repeat (first | exact (Kd.C_below HR2.out HB.out) | (with_reducible refine Kd.C_alloc ?_ _) | (with_reducible refine Kd.C_drewN ?_ _) | (with_reducible refine Kd.C_drew ?_))); (case side2 => exact HC2.out); (case side3 => exact Kd.C_nil _ _); (case side4 => exact Nat.le_refl _); (case side5 => repeat (first | exact (Kd.C_below HR1.out HB.out) | (with_reducible refine Kd.C_alloc ?_ _) | (with_reducible refine Kd.C_drewN ?_ _) | (with_reducible refine Kd.C_drew ?_))); (case side6 => exact HC1.out); rintro e w56 ⟨rfl, hb⟩; clear A35; have n0_ := Aside0.mk (Kd.R_below (by (with_reducible repeat (first | apply Kd.R_alloc | apply Kd.R_drewN | apply Kd.R_drew)); exact HO206.out) hb); have n1_ := Aside0.mk (Kd.R_below (by (with_reducible repeat (first | apply Kd.R_alloc | apply Kd.R_drewN | apply Kd.R_drew)); exact HO217.out) hb); have n2_ := Aside0.mk (Kd.R_below (by (with_reducible repeat (first | apply Kd.R_alloc | apply Kd.R_drewN | apply Kd.R_drew)); exact HO220.out) hb); have n3_ := Aside0.mk (blk_below (g := gb203) (o := .cells #[.int .i64 0, .int .i64 0, .int .i64 0, .slice A2 l2.length c2, .int .i64 0, .int .i64 0, .slice none 0 0] 30 (0, 0)) (by (with_reducible repeat (first | refine blk_drewN ?_ _ | refine blk_drew ?_ | refine blk_alloc ?_ _)); exact BK203.out) hb); have n4_ := Aside0.mk (below_step (by repeat (first | (with_reducible first | exact HB.out | apply below_alloc | apply pw_below_drewN | apply below_drew1 | refine below_set ?_ GE203.out) | exact HB.out)) hb); clear HO206; clear HO217; clear HO220; clear BK203; clear HB; have HO206 := n0_; have HO217 := n1_; have HO220 := n2_; have BK203 := n3_; have HB := n4_; clear n0_ n1_ n2_ n3_ n4_; (try clear hb); (try clear hb2); (try clear hk); (try clear hi)))
                 go_ret
                 exact ⟨by first | rfl | (simp [errW_none, errW_some] <;> rfl) | (simp [*, errW_none, errW_some] <;> rfl), by repeat (first | (with_reducible first | exact HB.out | apply below_alloc | apply pw_below_drewN | apply below_drew1 | refine below_set ?_ GE203.out) | exact HB.out)⟩
               · exact absurd (tells_true A33.out) c34
             · exact absurd (same_agree (agreeP A29.out A30.out) A31.out) c32
           · exact absurd (agreeB A26.out A27.out) c28
         · exact absurd (agreeD A23.out A24.out) c25
       · exact absurd (agreeB A20.out A21.out) c22
     · exact absurd (agreeD A17.out A18.out) c19
end Go.Proofs.Ytojkeabecjlaeaa.P
