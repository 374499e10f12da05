/- The walks of the functions that a law reaches, or the law's row: printed by a program of this session (wip/xprint.py) that drives the kit's printer with contracts of its own. -/
import Derived.Test.YtblnimopffhocaaXBits
import Derived.Test.YtblnimopffhocaaPx0
import Derived.Test.YtblnimopffhocaaRHand10
import Derived.Test.YtblnimopffhocaaPx5
namespace Go.Proofs.Ytblnimopffhocaa.P
open Go.RowKit Go.Proofs.YtblnimopffhocaaW.PrintWords Go.Proofs.YtblnimopffhocaaW.PrintLast Go.Proofs.YtblnimopffhocaaW.PrintMore Go.Proofs.YtblnimopffhocaaX
attribute [local go_sem] max2_int min2_int max_two min_two max_three min_three max_four min_four
set_option linter.unusedVariables false
set_option linter.unusedSimpArgs false
mutual
def interlockref08_Find.l0 : Nat → List (S40) → Int → Int → Int → Int → List Int → Int → Int → List (List (S25)) → Option ((List (S55)))
 | 0, _, _, _, _, _, _, _, _, _ => none
 | k + 1, x1, x6, x202000, x202001, x202002, x202003, x202004, x202005, x202006 => if x6 < (x1.length : Int) then (if (x1.length : Int) > 2000 then (some ([] : List (S55))) else (if 0 ≤ x6 then (if ((rd_T40 x1 x6).f0) < 0 then (some ([] : List (S55))) else (if ((rd_T40 x1 x6).f0) > 5 then (some ([] : List (S55))) else (interlockref08_Find.l0 k x1 (wrap64 (x6 + 1)) x202000 x202001 x202002 x202003 x202004 x202005 x202006))) else (none))) else (interlockref08_Find.l1 k x1 ([] : List (S55)) 0 x202000 x202001 x202002 x202003 x202004 x202005 x202006)
def interlockref08_Find.l1 : Nat → List (S40) → List (S55) → Int → Int → Int → Int → List Int → Int → Int → List (List (S25)) → Option ((List (S55)))
 | 0, _, _, _, _, _, _, _, _, _, _ => none
 | k + 1, x1, x5, x7, x202000, x202001, x202002, x202003, x202004, x202005, x202006 => if x7 < (x1.length : Int) then (if 0 ≤ x7 then (if ((rd_T40 x1 x7).f2) = 7 then (interlockref08_Find.j2 k x1 x5 x7 false x202000 x202001 x202002 x202003 x202004 x202005 x202006) else (interlockref08_Find.j2 k x1 x5 x7 (((rd_T40 x1 x7).f2) != 8) x202000 x202001 x202002 x202003 x202004 x202005 x202006)) else (none)) else (some x5)
def interlockref08_Find.j2 : Nat → List (S40) → List (S55) → Int → Bool → Int → Int → Int → List Int → Int → Int → List (List (S25)) → Option ((List (S55)))
 | 0, _, _, _, _, _, _, _, _, _, _, _ => none
 | k + 1, x1, x5, x7, x56, x202000, x202001, x202002, x202003, x202004, x202005, x202006 => if x56 = true then (interlockref08_Find.l1 k x1 x5 (wrap64 (x7 + 1)) x202000 x202001 x202002 x202003 x202004 x202005 x202006) else ((interlockref07_Marks.f k x202000 x202001 x202002 x202003 x202004 x202005 x202006 x1 x7).bind fun t206 => (interlockref08_Find.l2 k x1 x5 x7 t206 0 x202000 x202001 x202002 x202003 x202004 x202005 x202006))
def interlockref08_Find.l2 : Nat → List (S40) → List (S55) → Int → List Int → Int → Int → Int → Int → List Int → Int → Int → List (List (S25)) → Option ((List (S55)))
 | 0, _, _, _, _, _, _, _, _, _, _, _, _ => none
 | k + 1, x1, x5, x7, x8, x9, x202000, x202001, x202002, x202003, x202004, x202005, x202006 => if x9 < 6 then (interlockref08_Find.l3 k x1 x5 x7 x8 x9 (-1) 0 x202000 x202001 x202002 x202003 x202004 x202005 x202006) else (interlockref08_Find.l1 k x1 x5 (wrap64 (x7 + 1)) x202000 x202001 x202002 x202003 x202004 x202005 x202006)
def interlockref08_Find.l3 : Nat → List (S40) → List (S55) → Int → List Int → Int → Int → Int → Int → Int → Int → List Int → Int → Int → List (List (S25)) → Option ((List (S55)))
 | 0, _, _, _, _, _, _, _, _, _, _, _, _, _, _ => none
 | k + 1, x1, x5, x7, x8, x9, x10, x11, x202000, x202001, x202002, x202003, x202004, x202005, x202006 => if x11 < x7 then (if 0 ≤ x11 then (if x11 < (x1.length : Int) then (if ((rd_T40 x1 x11).f0) = x9 then (if 0 ≤ x7 then (if x7 < (x1.length : Int) then ((interlockref08_Conflict.f ((rd_T40 x1 x11).f0) ((rd_T40 x1 x11).f1) ((rd_T40 x1 x11).f2) ((rd_T40 x1 x11).f3) ((rd_T40 x1 x11).f4) ((rd_T40 x1 x11).f5) ((rd_T40 x1 x7).f0) ((rd_T40 x1 x7).f1) ((rd_T40 x1 x7).f2) ((rd_T40 x1 x7).f3) ((rd_T40 x1 x7).f4) ((rd_T40 x1 x7).f5)).bind fun t212 => (if t212 = true then (interlockref08_Find.l3 k x1 x5 x7 x8 x9 x11 (wrap64 (x11 + 1)) x202000 x202001 x202002 x202003 x202004 x202005 x202006) else (interlockref08_Find.l3 k x1 x5 x7 x8 x9 x10 (wrap64 (x11 + 1)) x202000 x202001 x202002 x202003 x202004 x202005 x202006))) else (none)) else (none)) else (interlockref08_Find.l3 k x1 x5 x7 x8 x9 x10 (wrap64 (x11 + 1)) x202000 x202001 x202002 x202003 x202004 x202005 x202006)) else (none)) else (none)) else (if x10 ≥ 0 then (if 0 ≤ x10 then (if x10 < (x8.length : Int) then (if (rd x8 x10) = 0 then (if x5.length < 8796093022208 then (interlockref08_Find.l2 k x1 (x5 ++ [(⟨x10, x7⟩ : S55)]) x7 x8 (wrap64 (x9 + 1)) x202000 x202001 x202002 x202003 x202004 x202005 x202006) else (none)) else (interlockref08_Find.l2 k x1 x5 x7 x8 (wrap64 (x9 + 1)) x202000 x202001 x202002 x202003 x202004 x202005 x202006)) else (none)) else (none)) else (interlockref08_Find.l2 k x1 x5 x7 x8 (wrap64 (x9 + 1)) x202000 x202001 x202002 x202003 x202004 x202005 x202006))
end
def interlockref08_Find.f (k : Nat) (a0_0 : Int) (a0_1 : Int) (a0_2 : Int) (l0_3 : List Int) (a0_4 : Int) (a0_5 : Int) (l0_6 : List (List (S25))) (l1 : List (S40)) : Option ((List (S55))) := interlockref08_Find.l0 k l1 0 a0_0 a0_1 a0_2 l0_3 a0_4 a0_5 l0_6
def interlockref08_Find.T19 : Bool × List (List Nat × List Nat) := (true, [([], []), ([], []), ([0, 1], [0, 1]), ([2], [2]), ([3], [3]), ([], []), ([4, 5], [4, 5]), ([6], [6]), ([7], [7]), ([7], [7]), ([8, 9, 7], [7, 8, 9]), ([10, 7], [7, 10]), ([7], [7]), ([7], [7]), ([12, 13, 7], [7, 12, 13]), ([14, 7], [7, 14]), ([11, 15, 7, 7], [7, 11, 15]), ([7, 16], [7, 16])])
def interlockref08_Find.B19 : List Nat := [0, 0, 3, 7, 15, 0, 63, 127, 255, 255, 1023, 2047, 255, 255, 12543, 28927, 65535, 131071]
theorem interlockref08_Find.tab19 : rtab .any (opsOf Try.f18 19) = interlockref08_Find.T19 := by kernel_rfl
theorem interlockref08_Find.bits19 : waitsOk interlockref08_Find.T19.2 interlockref08_Find.B19 = true := by kernel_rfl
set_option maxHeartbeats 8000000 in
set_option maxRecDepth 100000 in
theorem interlockref08_Find.calls (k : Nat) (a0_0 : Int) (a0_1 : Int) (a0_2 : Int) (A0_3 : Option Addr) (c0_3 : Nat) (l0_3 : List Int) (a0_4 : Int) (a0_5 : Int) (A0_6 : Option Addr) (c0_6 : Nat) (l0_6 : List (List (S25))) (A1 : Option Addr) (c1 : Nat) (l1 : List (S40)) (r : List (S55)) (w : World) (hr0_3 : Kd.C (Kd.int .i64) w A0_3 l0_3.length l0_3) (hc0_3 : l0_3.length ≤ c0_3) (hr0_6 : Kd.C (Kd.slice 25 k25) w A0_6 l0_6.length l0_6) (hc0_6 : l0_6.length ≤ c0_6) (hr1 : Kd.C k40 w A1 l1.length l1) (hc1 : l1.length ≤ c1) (h : interlockref08_Find.f k a0_0 a0_1 a0_2 l0_3 a0_4 a0_5 l0_6 l1 = some r) :
 Calls Try.prog 18 #[.agg #[.int .i64 a0_0, .int .i64 a0_1, .int .i64 a0_2, .slice A0_3 l0_3.length c0_3, .int .i64 a0_4, .int .i64 a0_5, .slice A0_6 l0_6.length c0_6], .slice A1 l1.length c1] w fun e w' => ∃ v0_ : Value, e = .returned (v0_) ∧ Kd.R k55 55 w' w.heap.size (fun _ => True) v0_ r ∧ Below w.heap.size w w' := by
 have hu29 := Try.underlying29
 have hu40 := Try.underlying40
 have hu55 := Try.underlying55
 have HR0_3 := Aside0.mk hr0_3
 have HC0_3 := Aside0.mk hc0_3
 clear hr0_3 hc0_3
 have HR0_6 := Aside0.mk hr0_6
 have HC0_6 := Aside0.mk hc0_6
 clear hr0_6 hc0_6
 have HR1 := Aside0.mk hr1
 have HC1 := Aside0.mk hc1
 clear hr1 hc1
 have HB := Aside0.mk (Below.refl w.heap.size w)
 have H : (interlockref08_Find.l0 k l1 0 a0_0 a0_1 a0_2 l0_3 a0_4 a0_5 l0_6) = some r := h
 clear h
 have H' := Aside0.mk H
 clear H
 go_enter Try.func18, Try.ntmps18
 go_wp2_with (first | ((with_reducible refine gate_dst (N := 2) rfl ?_); refine box_event ?hg (N := 2) ?hd (cs := #[.int .i64 a0_0, .int .i64 a0_1, .int .i64 a0_2, .slice A0_3 l0_3.length c0_3, .int .i64 a0_4, .int .i64 a0_5, .slice A0_6 l0_6.length c0_6]) (t := 29) ?hr ?_; (case hd => rfl); (case hg => rfl); (case hr => first | (go_simp; done) | (go_simp; rfl)); intro gb201 hg w3 hbox hb; have n0_ := Aside0.mk (below_step (by repeat (first | (with_reducible first | exact HB.out | apply below_alloc | apply pw_below_drewN | apply below_drew1) | exact HB.out)) hb); have n1_ := Aside0.mk (hbox); have n2_ := Aside0.mk ((by rw [hg]; exact (below_size (by repeat (first | (with_reducible first | exact HB.out | apply below_alloc | apply pw_below_drewN | apply below_drew1) | exact HB.out))) : w.heap.size ≤ gb201)); have n3_ := Aside0.mk ((by rw [hg]; exact (below_size (by repeat (first | (with_reducible first | exact HB.out | apply below_alloc | apply pw_below_drewN | apply below_drew1) | exact HB.out))) : w.heap.size ≤ gb201)); clear HB; have HB := n0_; have BK201 := n1_; have GW201 := n2_; have GE201 := n3_; clear n0_ n1_ n2_ n3_; clear hb hbox hg))
 go_loopg [6] k (fun kq v6 w' => ∃ (x6_1 : Int), v6 = .int .i64 x6_1 ∧ Aside0 (interlockref08_Find.l0 kq l1 x6_1 a0_0 a0_1 a0_2 l0_3 a0_4 a0_5 l0_6 = some r) ∧ Aside0 (kq ≤ k) ∧ Aside0 (w'.heap[gb201]? = some (.cells #[.int .i64 a0_0, .int .i64 a0_1, .int .i64 a0_2, (.slice A0_3 l0_3.length c0_3), .int .i64 a0_4, .int .i64 a0_5, (.slice A0_6 l0_6.length c0_6)] 29 (0, 0))) ∧ Aside0 (Below w.heap.size w w'))
 case atStart => exact ⟨(0), (by first | rfl | (simp; done) | (simp [*]; done)), H', ⟨Nat.le_refl _⟩, ⟨by (with_reducible repeat (first | refine blk_drewN ?_ _ | refine blk_drew ?_ | refine blk_alloc ?_ _)); exact BK201.out⟩, ⟨by repeat (first | (with_reducible first | exact HB.out | apply below_alloc | apply pw_below_drewN | apply below_drew1 | refine below_set ?_ GE201.out) | exact HB.out)⟩⟩
 case round =>
  clear H'
  try clear c1
  try clear p2
  obtain ⟨x6_1, rfl, HA, HK1, BK201, HB⟩ := hrel
  cases gk with
  | zero => exact absurd HA.out (by simp [interlockref08_Find.l0])
  | succ k1 =>
   have H := HA.out
   clear HA
   simp only [interlockref08_Find.l0] at H
   by_cases c4 : x6_1 < (l1.length : Int)
   · rw [if_pos c4] at H
     have c4b0 : decide (x6_1 < (l1.length : Int)) = true := decide_eq_true c4
     clear c4
     by_cases c5 : (l1.length : Int) > 2000
     · rw [if_pos c5] at H
       have c5b0 : decide (2000 < (l1.length : Int)) = true := decide_eq_true c5
       have c5b1 : decide (2000 < l1.length) = true := decide_eq_true (by omega)
       clear c5
       obtain rfl := Option.some.inj H
       go_wp2
       go_ret
       exact ⟨_, by first | rfl | (simp [errW_none, errW_some] <;> rfl) | (simp [*, errW_none, errW_some] <;> rfl), by first | exact Kd.R_nil _ _ _ _ _ | exact Kd.N_nil _ _ _ _ _ | exact Kd.V_nil _ _ _ _ _ | exact Kd.Q_nil _ _ _ _ _ | exact Kd.S_nil _ _ _ _ _, by repeat (first | (with_reducible first | exact HB.out | apply below_alloc | apply pw_below_drewN | apply below_drew1 | refine below_set ?_ GE201.out) | exact HB.out)⟩
     · rw [if_neg c5] at H
       have c5b0 : decide (2000 < (l1.length : Int)) = false := decide_eq_false c5
       have c5b1 : decide (2000 < l1.length) = false := decide_eq_false (by omega)
       clear c5
       by_cases c6 : 0 ≤ x6_1
       · rw [if_pos c6] at H
         have c6b0 : decide (0 ≤ x6_1) = true := decide_eq_true c6
         clear c6
         by_cases c7 : ((rd_T40 l1 x6_1).f0) < 0
         · rw [if_pos c7] at H
           have c7b0 : decide (((rd_T40 l1 x6_1).f0) < 0) = true := decide_eq_true c7
           clear c7
           obtain rfl := Option.some.inj H
           have p202 : 0 ≤ (x6_1 : Int) := of_decide_eq_true (by first | (with_reducible assumption) | assumption)
           have q202 : x6_1 < (l1.length : Int) := of_decide_eq_true (by first | (with_reducible assumption) | assumption)
           obtain ⟨ad202, e202, hx202_0, hx202_1, hx202_2, hx202_3, hx202_4, hx202_5⟩ := at_T40 HR1.out x6_1 p202 q202
           cases e202
           replace hx202_0 := (HB.out.cell (World.block_lt_of_cell? w _ hx202_0)).trans hx202_0
           replace hx202_1 := (HB.out.cell (World.block_lt_of_cell? w _ hx202_1)).trans hx202_1
           replace hx202_2 := (HB.out.cell (World.block_lt_of_cell? w _ hx202_2)).trans hx202_2
           replace hx202_3 := (HB.out.cell (World.block_lt_of_cell? w _ hx202_3)).trans hx202_3
           replace hx202_4 := (HB.out.cell (World.block_lt_of_cell? w _ hx202_4)).trans hx202_4
           replace hx202_5 := (HB.out.cell (World.block_lt_of_cell? w _ hx202_5)).trans hx202_5
           replace p202 := eq_true p202
           replace q202 := eq_true q202
           go_wp2
           go_ret
           exact ⟨_, by first | rfl | (simp [errW_none, errW_some] <;> rfl) | (simp [*, errW_none, errW_some] <;> rfl), by first | exact Kd.R_nil _ _ _ _ _ | exact Kd.N_nil _ _ _ _ _ | exact Kd.V_nil _ _ _ _ _ | exact Kd.Q_nil _ _ _ _ _ | exact Kd.S_nil _ _ _ _ _, by repeat (first | (with_reducible first | exact HB.out | apply below_alloc | apply pw_below_drewN | apply below_drew1 | refine below_set ?_ GE201.out) | exact HB.out)⟩
         · rw [if_neg c7] at H
           have c7b0 : decide (((rd_T40 l1 x6_1).f0) < 0) = false := decide_eq_false c7
           clear c7
           by_cases c8 : ((rd_T40 l1 x6_1).f0) > 5
           · rw [if_pos c8] at H
             have c8b0 : decide (5 < ((rd_T40 l1 x6_1).f0)) = true := decide_eq_true c8
             clear c8
             obtain rfl := Option.some.inj H
             have p202 : 0 ≤ (x6_1 : Int) := of_decide_eq_true (by first | (with_reducible assumption) | assumption)
             have q202 : x6_1 < (l1.length : Int) := of_decide_eq_true (by first | (with_reducible assumption) | assumption)
             obtain ⟨ad202, e202, hx202_0, hx202_1, hx202_2, hx202_3, hx202_4, hx202_5⟩ := at_T40 HR1.out x6_1 p202 q202
             cases e202
             replace hx202_0 := (HB.out.cell (World.block_lt_of_cell? w _ hx202_0)).trans hx202_0
             replace hx202_1 := (HB.out.cell (World.block_lt_of_cell? w _ hx202_1)).trans hx202_1
             replace hx202_2 := (HB.out.cell (World.block_lt_of_cell? w _ hx202_2)).trans hx202_2
             replace hx202_3 := (HB.out.cell (World.block_lt_of_cell? w _ hx202_3)).trans hx202_3
             replace hx202_4 := (HB.out.cell (World.block_lt_of_cell? w _ hx202_4)).trans hx202_4
             replace hx202_5 := (HB.out.cell (World.block_lt_of_cell? w _ hx202_5)).trans hx202_5
             replace p202 := eq_true p202
             replace q202 := eq_true q202
             have p203 : 0 ≤ (x6_1 : Int) := of_decide_eq_true (by first | (with_reducible assumption) | assumption)
             have q203 : x6_1 < (l1.length : Int) := of_decide_eq_true (by first | (with_reducible assumption) | assumption)
             obtain ⟨ad203, e203, hx203_0, hx203_1, hx203_2, hx203_3, hx203_4, hx203_5⟩ := at_T40 HR1.out x6_1 p203 q203
             obtain rfl : ad202 = ad203 := (by injection e203)
             replace hx203_0 := (HB.out.cell (World.block_lt_of_cell? w _ hx203_0)).trans hx203_0
             replace hx203_1 := (HB.out.cell (World.block_lt_of_cell? w _ hx203_1)).trans hx203_1
             replace hx203_2 := (HB.out.cell (World.block_lt_of_cell? w _ hx203_2)).trans hx203_2
             replace hx203_3 := (HB.out.cell (World.block_lt_of_cell? w _ hx203_3)).trans hx203_3
             replace hx203_4 := (HB.out.cell (World.block_lt_of_cell? w _ hx203_4)).trans hx203_4
             replace hx203_5 := (HB.out.cell (World.block_lt_of_cell? w _ hx203_5)).trans hx203_5
             replace p203 := eq_true p203
             replace q203 := eq_true q203
             go_wp2
             go_ret
             exact ⟨_, by first | rfl | (simp [errW_none, errW_some] <;> rfl) | (simp [*, errW_none, errW_some] <;> rfl), by first | exact Kd.R_nil _ _ _ _ _ | exact Kd.N_nil _ _ _ _ _ | exact Kd.V_nil _ _ _ _ _ | exact Kd.Q_nil _ _ _ _ _ | exact Kd.S_nil _ _ _ _ _, by repeat (first | (with_reducible first | exact HB.out | apply below_alloc | apply pw_below_drewN | apply below_drew1 | refine below_set ?_ GE201.out) | exact HB.out)⟩
           · rw [if_neg c8] at H
             have c8b0 : decide (5 < ((rd_T40 l1 x6_1).f0)) = false := decide_eq_false c8
             clear c8
             have H' := Aside0.mk H
             clear H
             have p202 : 0 ≤ (x6_1 : Int) := of_decide_eq_true (by first | (with_reducible assumption) | assumption)
             have q202 : x6_1 < (l1.length : Int) := of_decide_eq_true (by first | (with_reducible assumption) | assumption)
             obtain ⟨ad202, e202, hx202_0, hx202_1, hx202_2, hx202_3, hx202_4, hx202_5⟩ := at_T40 HR1.out x6_1 p202 q202
             cases e202
             replace hx202_0 := (HB.out.cell (World.block_lt_of_cell? w _ hx202_0)).trans hx202_0
             replace hx202_1 := (HB.out.cell (World.block_lt_of_cell? w _ hx202_1)).trans hx202_1
             replace hx202_2 := (HB.out.cell (World.block_lt_of_cell? w _ hx202_2)).trans hx202_2
             replace hx202_3 := (HB.out.cell (World.block_lt_of_cell? w _ hx202_3)).trans hx202_3
             replace hx202_4 := (HB.out.cell (World.block_lt_of_cell? w _ hx202_4)).trans hx202_4
             replace hx202_5 := (HB.out.cell (World.block_lt_of_cell? w _ hx202_5)).trans hx202_5
             replace p202 := eq_true p202
             replace q202 := eq_true q202
             have p203 : 0 ≤ (x6_1 : Int) := of_decide_eq_true (by first | (with_reducible assumption) | assumption)
             have q203 : x6_1 < (l1.length : Int) := of_decide_eq_true (by first | (with_reducible assumption) | assumption)
             obtain ⟨ad203, e203, hx203_0, hx203_1, hx203_2, hx203_3, hx203_4, hx203_5⟩ := at_T40 HR1.out x6_1 p203 q203
             obtain rfl : ad202 = ad203 := (by injection e203)
             replace hx203_0 := (HB.out.cell (World.block_lt_of_cell? w _ hx203_0)).trans hx203_0
             replace hx203_1 := (HB.out.cell (World.block_lt_of_cell? w _ hx203_1)).trans hx203_1
             replace hx203_2 := (HB.out.cell (World.block_lt_of_cell? w _ hx203_2)).trans hx203_2
             replace hx203_3 := (HB.out.cell (World.block_lt_of_cell? w _ hx203_3)).trans hx203_3
             replace hx203_4 := (HB.out.cell (World.block_lt_of_cell? w _ hx203_4)).trans hx203_4
             replace hx203_5 := (HB.out.cell (World.block_lt_of_cell? w _ hx203_5)).trans hx203_5
             replace p203 := eq_true p203
             replace q203 := eq_true q203
             go_wp2
             go_roundg k1
             case measure => have := HK1.out; omega
             case rel => exact ⟨(wrap64 (x6_1 + 1)), (by first | rfl | (simp; done) | (simp [*]; done)), H', ⟨by have := HK1.out; omega⟩, ⟨by (with_reducible repeat (first | refine blk_drewN ?_ _ | refine blk_drew ?_ | refine blk_alloc ?_ _)); exact BK201.out⟩, ⟨by repeat (first | (with_reducible first | exact HB.out | apply below_alloc | apply pw_below_drewN | apply below_drew1 | refine below_set ?_ GE201.out) | exact HB.out)⟩⟩
       · rw [if_neg c6] at H
         exact absurd H (by simp)
   · rw [if_neg c4] at H
     have c4b0 : decide (x6_1 < (l1.length : Int)) = false := decide_eq_false c4
     clear c4
     have H' := Aside0.mk H
     clear H
     go_wp2
     go_loopg [5, 7] k1 (fun kq v5 v7 w' => ∃ (x5_2 : List (S55)) (x7_2 : Int), v7 = .int .i64 x7_2 ∧ Aside0 (interlockref08_Find.l1 kq l1 x5_2 x7_2 a0_0 a0_1 a0_2 l0_3 a0_4 a0_5 l0_6 = some r) ∧ Aside0 (kq ≤ k1) ∧ Aside0 (Kd.R k55 55 w' w.heap.size (fun _ => True) v5 x5_2) ∧ Aside0 (w'.heap[gb201]? = some (.cells #[.int .i64 a0_0, .int .i64 a0_1, .int .i64 a0_2, (.slice A0_3 l0_3.length c0_3), .int .i64 a0_4, .int .i64 a0_5, (.slice A0_6 l0_6.length c0_6)] 29 (0, 0))) ∧ Aside0 (Below w.heap.size w w'))
     case atStart => exact ⟨(([] : List (S55))), (0), (by first | rfl | (simp; done) | (simp [*]; done)), H', ⟨Nat.le_refl _⟩, ⟨by first | exact Kd.R_nil _ _ _ _ _ | exact Kd.N_nil _ _ _ _ _ | exact Kd.V_nil _ _ _ _ _ | exact Kd.Q_nil _ _ _ _ _ | exact Kd.S_nil _ _ _ _ _⟩, ⟨by (with_reducible repeat (first | refine blk_drewN ?_ _ | refine blk_drew ?_ | refine blk_alloc ?_ _)); exact BK201.out⟩, ⟨by repeat (first | (with_reducible first | exact HB.out | apply below_alloc | apply pw_below_drewN | apply below_drew1 | refine below_set ?_ GE201.out) | exact HB.out)⟩⟩
     case round =>
      clear H'
      try clear c1
      try clear p2
      try clear q2
      try clear hx2
      try clear c4
      try clear c4b0
      try clear c5
      try clear c5b0
      try clear c5b1
      try clear c6
      try clear c6b0
      try clear p6
      try clear c7
      try clear c7b0
      try clear c8
      try clear c8b0
      try clear hx202_0
      try clear hx202_1
      try clear hx202_2
      try clear hx202_3
      try clear hx202_4
      try clear hx202_5
      try clear hx203_0
      try clear hx203_1
      try clear hx203_2
      try clear hx203_3
      try clear hx203_4
      try clear hx203_5
      try clear p2
      try clear p202
      try clear p203
      try clear q202
      try clear q203
      obtain ⟨x5_2, x7_2, rfl, HA, HK2, HO_5, BK201, HB⟩ := hrel
      cases gk with
      | zero => exact absurd HA.out (by simp [interlockref08_Find.l1])
      | succ k2 =>
       have H := HA.out
       clear HA
       simp only [interlockref08_Find.l1] at H
       by_cases c9 : x7_2 < (l1.length : Int)
       · rw [if_pos c9] at H
         have c9b0 : decide (x7_2 < (l1.length : Int)) = true := decide_eq_true c9
         clear c9
         have HC10 := Aside0.mk H
         clear H
         go_upto_region 10 with (fail)
         go_cut [56] (fun v56 wc => ∃ (kq : Nat) (x56_9 : Bool), v56 = .bool x56_9 ∧ Aside0 (interlockref08_Find.j2 kq l1 x5_2 x7_2 x56_9 a0_0 a0_1 a0_2 l0_3 a0_4 a0_5 l0_6 = some r) ∧ Aside0 (kq ≤ k2) ∧ Aside0 (Kd.R k55 55 wc w.heap.size (fun _ => True) u5 x5_2) ∧ Aside0 (wc.heap[gb201]? = some (.cells #[.int .i64 a0_0, .int .i64 a0_1, .int .i64 a0_2, (.slice A0_3 l0_3.length c0_3), .int .i64 a0_4, .int .i64 a0_5, (.slice A0_6 l0_6.length c0_6)] 29 (0, 0))) ∧ Aside0 (Below w.heap.size w wc))
         case first =>
          have H := HC10.out
          clear HC10
          by_cases c11 : 0 ≤ x7_2
          · rw [if_pos c11] at H
            have c11b0 : decide (0 ≤ x7_2) = true := decide_eq_true c11
            clear c11
            (first | rw [c11b0] | (simp only [i64_w, i32_w]; rw [c11b0]) | skip)
            by_cases c12 : ((rd_T40 l1 x7_2).f2) = 7
            · rw [if_pos c12] at H
              have c12b0 : (((rd_T40 l1 x7_2).f2) == 7) = true := beq_iff_eq.mpr c12
              have c12b1 : (((rd_T40 l1 x7_2).f2) != 7) = false := bne_eq_false_iff_eq.mpr c12
              clear c12
              have H' := Aside0.mk H
              clear H
              have p204 : 0 ≤ (x7_2 : Int) := of_decide_eq_true (by first | (with_reducible assumption) | assumption)
              have q204 : x7_2 < (l1.length : Int) := of_decide_eq_true (by first | (with_reducible assumption) | assumption)
              obtain ⟨ad204, e204, hx204_0, hx204_1, hx204_2, hx204_3, hx204_4, hx204_5⟩ := at_T40 HR1.out x7_2 p204 q204
              cases e204
              replace hx204_0 := (HB.out.cell (World.block_lt_of_cell? w _ hx204_0)).trans hx204_0
              replace hx204_1 := (HB.out.cell (World.block_lt_of_cell? w _ hx204_1)).trans hx204_1
              replace hx204_2 := (HB.out.cell (World.block_lt_of_cell? w _ hx204_2)).trans hx204_2
              replace hx204_3 := (HB.out.cell (World.block_lt_of_cell? w _ hx204_3)).trans hx204_3
              replace hx204_4 := (HB.out.cell (World.block_lt_of_cell? w _ hx204_4)).trans hx204_4
              replace hx204_5 := (HB.out.cell (World.block_lt_of_cell? w _ hx204_5)).trans hx204_5
              replace p204 := eq_true p204
              replace q204 := eq_true q204
              go_wp2
              go_meet
              case rel => exact ⟨_, (false), (by first | rfl | (simp; done) | (simp [*]; done)), H', ⟨by have := HK1.out; have := HK2.out; first | omega | exact Nat.le_refl _⟩, ⟨by (with_reducible repeat (first | apply Kd.R_alloc | apply Kd.R_drewN | apply Kd.R_drew)); exact HO_5.out⟩, ⟨by (with_reducible repeat (first | refine blk_drewN ?_ _ | refine blk_drew ?_ | refine blk_alloc ?_ _)); exact BK201.out⟩, ⟨by repeat (first | (with_reducible first | exact HB.out | apply below_alloc | apply pw_below_drewN | apply below_drew1 | refine below_set ?_ GE201.out) | exact HB.out)⟩⟩
            · rw [if_neg c12] at H
              have c12b0 : (((rd_T40 l1 x7_2).f2) == 7) = false := beq_eq_false_iff_ne.mpr c12
              have c12b1 : (((rd_T40 l1 x7_2).f2) != 7) = true := bne_iff_ne.mpr c12
              have H' := Aside0.mk H
              clear H
              have p204 : 0 ≤ (x7_2 : Int) := of_decide_eq_true (by first | (with_reducible assumption) | assumption)
              have q204 : x7_2 < (l1.length : Int) := of_decide_eq_true (by first | (with_reducible assumption) | assumption)
              obtain ⟨ad204, e204, hx204_0, hx204_1, hx204_2, hx204_3, hx204_4, hx204_5⟩ := at_T40 HR1.out x7_2 p204 q204
              cases e204
              replace hx204_0 := (HB.out.cell (World.block_lt_of_cell? w _ hx204_0)).trans hx204_0
              replace hx204_1 := (HB.out.cell (World.block_lt_of_cell? w _ hx204_1)).trans hx204_1
              replace hx204_2 := (HB.out.cell (World.block_lt_of_cell? w _ hx204_2)).trans hx204_2
              replace hx204_3 := (HB.out.cell (World.block_lt_of_cell? w _ hx204_3)).trans hx204_3
              replace hx204_4 := (HB.out.cell (World.block_lt_of_cell? w _ hx204_4)).trans hx204_4
              replace hx204_5 := (HB.out.cell (World.block_lt_of_cell? w _ hx204_5)).trans hx204_5
              replace p204 := eq_true p204
              replace q204 := eq_true q204
              have p205 : 0 ≤ (x7_2 : Int) := of_decide_eq_true (by first | (with_reducible assumption) | assumption)
              have q205 : x7_2 < (l1.length : Int) := of_decide_eq_true (by first | (with_reducible assumption) | assumption)
              obtain ⟨ad205, e205, hx205_0, hx205_1, hx205_2, hx205_3, hx205_4, hx205_5⟩ := at_T40 HR1.out x7_2 p205 q205
              obtain rfl : ad204 = ad205 := (by injection e205)
              replace hx205_0 := (HB.out.cell (World.block_lt_of_cell? w _ hx205_0)).trans hx205_0
              replace hx205_1 := (HB.out.cell (World.block_lt_of_cell? w _ hx205_1)).trans hx205_1
              replace hx205_2 := (HB.out.cell (World.block_lt_of_cell? w _ hx205_2)).trans hx205_2
              replace hx205_3 := (HB.out.cell (World.block_lt_of_cell? w _ hx205_3)).trans hx205_3
              replace hx205_4 := (HB.out.cell (World.block_lt_of_cell? w _ hx205_4)).trans hx205_4
              replace hx205_5 := (HB.out.cell (World.block_lt_of_cell? w _ hx205_5)).trans hx205_5
              replace p205 := eq_true p205
              replace q205 := eq_true q205
              go_wp2
              go_meet
              case rel => exact ⟨_, ((((rd_T40 l1 x7_2).f2) != 8)), (by first | rfl | (simp; done) | (simp [*]; done)), H', ⟨by have := HK1.out; have := HK2.out; first | omega | exact Nat.le_refl _⟩, ⟨by (with_reducible repeat (first | apply Kd.R_alloc | apply Kd.R_drewN | apply Kd.R_drew)); exact HO_5.out⟩, ⟨by (with_reducible repeat (first | refine blk_drewN ?_ _ | refine blk_drew ?_ | refine blk_alloc ?_ _)); exact BK201.out⟩, ⟨by repeat (first | (with_reducible first | exact HB.out | apply below_alloc | apply pw_below_drewN | apply below_drew1 | refine below_set ?_ GE201.out) | exact HB.out)⟩⟩
          · rw [if_neg c11] at H
            exact absurd H (by simp)
         case rest =>
          clear HC10
          try clear c1
          try clear p2
          try clear q2
          try clear hx2
          try clear c4
          try clear c4b0
          try clear c5
          try clear c5b0
          try clear c5b1
          try clear c6
          try clear c6b0
          try clear p6
          try clear c7
          try clear c7b0
          try clear c8
          try clear c8b0
          try clear c9
          try clear c9b0
          try clear c11
          try clear c11b0
          try clear c12
          try clear c12b0
          try clear c12b1
          try clear hx202_0
          try clear hx202_1
          try clear hx202_2
          try clear hx202_3
          try clear hx202_4
          try clear hx202_5
          try clear hx203_0
          try clear hx203_1
          try clear hx203_2
          try clear hx203_3
          try clear hx203_4
          try clear hx203_5
          try clear hx204_0
          try clear hx204_1
          try clear hx204_2
          try clear hx204_3
          try clear hx204_4
          try clear hx204_5
          try clear hx205_0
          try clear hx205_1
          try clear hx205_2
          try clear hx205_3
          try clear hx205_4
          try clear hx205_5
          try clear p2
          try clear p202
          try clear p203
          try clear p204
          try clear p205
          try clear p6
          try clear q2
          try clear q202
          try clear q203
          try clear q204
          try clear q205
          obtain ⟨kq, x56_9, rfl, HA, HJ9, HO_5, BK201, HB⟩ := hcut
          cases kq with
          | zero => exact absurd HA.out (by simp [interlockref08_Find.j2])
          | succ kj9 =>
           have H := HA.out
           clear HA
           simp only [interlockref08_Find.j2] at H
           by_cases c13 : x56_9 = true
           · subst c13
             have H1 : (interlockref08_Find.l1 kj9 l1 x5_2 (wrap64 (x7_2 + 1)) a0_0 a0_1 a0_2 l0_3 a0_4 a0_5 l0_6) = some r := by rw [if_pos rfl] at H; exact H
             clear H
             have H := H1
             clear H1
             have H' := Aside0.mk H
             clear H
             go_wp2
             go_roundg kj9
             case measure => have := HK1.out; have := HK2.out; have := HJ9.out; omega
             case rel => exact ⟨(x5_2), (wrap64 (x7_2 + 1)), (by first | rfl | (simp; done) | (simp [*]; done)), H', ⟨by have := HK1.out; have := HK2.out; have := HJ9.out; omega⟩, ⟨by (with_reducible repeat (first | apply Kd.R_alloc | apply Kd.R_drewN | apply Kd.R_drew)); exact HO_5.out⟩, ⟨by (with_reducible repeat (first | refine blk_drewN ?_ _ | refine blk_drew ?_ | refine blk_alloc ?_ _)); exact BK201.out⟩, ⟨by repeat (first | (with_reducible first | exact HB.out | apply below_alloc | apply pw_below_drewN | apply below_drew1 | refine below_set ?_ GE201.out) | exact HB.out)⟩⟩
           · replace c13 := Bool.eq_false_iff.mpr c13
             subst c13
             have H1 : ((interlockref07_Marks.f kj9 a0_0 a0_1 a0_2 l0_3 a0_4 a0_5 l0_6 l1 x7_2).bind fun t206 => (interlockref08_Find.l2 kj9 l1 x5_2 x7_2 t206 0 a0_0 a0_1 a0_2 l0_3 a0_4 a0_5 l0_6)) = some r := by rw [if_neg (show ¬ (false = true) by decide)] at H; exact H
             clear H
             have H := H1
             clear H1
             replace H := Option.bind_eq_some_iff.mp H
             obtain ⟨t206, A140, H⟩ := H
             replace H : (interlockref08_Find.l2 kj9 l1 x5_2 x7_2 t206 0 a0_0 a0_1 a0_2 l0_3 a0_4 a0_5 l0_6) = some r := H
             have A14 := Aside0.mk A140
             clear A140
             have H' := Aside0.mk H
             clear H
             have hcz15_0 : wc.cell? ⟨gb201, 0, none⟩ = some (.int .i64 a0_0) := (blk_cell BK201.out 0).trans rfl
             have hcz15_1 : wc.cell? ⟨gb201, 1, none⟩ = some (.int .i64 a0_1) := (blk_cell BK201.out 1).trans rfl
             have hcz15_2 : wc.cell? ⟨gb201, 2, none⟩ = some (.int .i64 a0_2) := (blk_cell BK201.out 2).trans rfl
             have hcz15_3 : wc.cell? ⟨gb201, 3, none⟩ = some (.slice A0_3 l0_3.length c0_3) := (blk_cell BK201.out 3).trans rfl
             have hcz15_4 : wc.cell? ⟨gb201, 4, none⟩ = some (.int .i64 a0_4) := (blk_cell BK201.out 4).trans rfl
             have hcz15_5 : wc.cell? ⟨gb201, 5, none⟩ = some (.int .i64 a0_5) := (blk_cell BK201.out 5).trans rfl
             have hcz15_6 : wc.cell? ⟨gb201, 6, none⟩ = some (.slice A0_6 l0_6.length c0_6) := (blk_cell BK201.out 6).trans rfl
             have hfz15_0 := blk_frozen BK201.out 0
             have hfz15_1 := blk_frozen BK201.out 1
             have hfz15_2 := blk_frozen BK201.out 2
             have hfz15_3 := blk_frozen BK201.out 3
             have hfz15_4 := blk_frozen BK201.out 4
             have hfz15_5 := blk_frozen BK201.out 5
             have hfz15_6 := blk_frozen BK201.out 6
             go_wp2_with (first | ((with_reducible refine gate_callee (f := 21) rfl ?_); refine goesL_ (some 60) rfl rfl Try.func21 (by kernel_rfl) rfl #[.agg #[.int .i64 a0_0, .int .i64 a0_1, .int .i64 a0_2, .slice A0_3 l0_3.length c0_3, .int .i64 a0_4, .int .i64 a0_5, .slice A0_6 l0_6.length c0_6], .slice A1 l1.length c1, .int .i64 x7_2] rfl (by (try simp only [List.map_toArray, List.map_cons, List.map_nil]); first | done | rfl | (simp only [List.length_drop, List.length_take]; rfl)) ?_; (with_reducible refine (interlockref07_Marks.calls kj9 a0_0 a0_1 a0_2 _ _ l0_3 a0_4 a0_5 _ _ l0_6 _ _ l1 x7_2 t206 _ ?side1 ?side2 ?side3 ?side4 ?side5 ?side6 A14.out).mono ?_); (case side1 => repeat (first | exact (Kd.C_below HR0_3.out HB.out) | (with_reducible refine Kd.C_alloc ?_ _) | (with_reducible refine Kd.C_drewN ?_ _) | (with_reducible refine Kd.C_drew ?_))); (case side2 => exact HC0_3.out); (case side3 => repeat (first | exact (Kd.C_below HR0_6.out HB.out) | (with_reducible refine Kd.C_alloc ?_ _) | (with_reducible refine Kd.C_drewN ?_ _) | (with_reducible refine Kd.C_drew ?_))); (case side4 => exact HC0_6.out); (case side5 => repeat (first | exact (Kd.C_below HR1.out HB.out) | (with_reducible refine Kd.C_alloc ?_ _) | (with_reducible refine Kd.C_drewN ?_ _) | (with_reducible refine Kd.C_drew ?_))); (case side6 => exact HC1.out); rintro e w16 ⟨v207, rfl, ho0, hb⟩; refine ⟨_, rfl, ?_⟩; have n0_ := Aside0.mk (Kd.R_below (by (with_reducible repeat (first | apply Kd.R_alloc | apply Kd.R_drewN | apply Kd.R_drew)); exact HO_5.out) hb); have n1_ := Aside0.mk (Kd.R_lower ho0 (below_size (by repeat (first | (with_reducible first | exact HB.out | apply below_alloc | apply pw_below_drewN | apply below_drew1 | refine below_set ?_ GE201.out) | exact HB.out)))); have n2_ := Aside0.mk (blk_below (g := gb201) (o := .cells #[.int .i64 a0_0, .int .i64 a0_1, .int .i64 a0_2, .slice A0_3 l0_3.length c0_3, .int .i64 a0_4, .int .i64 a0_5, .slice A0_6 l0_6.length c0_6] 29 (0, 0)) (by (with_reducible repeat (first | refine blk_drewN ?_ _ | refine blk_drew ?_ | refine blk_alloc ?_ _)); exact BK201.out) hb); have n3_ := Aside0.mk (below_step (by repeat (first | (with_reducible first | exact HB.out | apply below_alloc | apply pw_below_drewN | apply below_drew1 | refine below_set ?_ GE201.out) | exact HB.out)) hb); clear HO_5; clear BK201; clear HB; have HO_5 := n0_; have HO208 := n1_; have BK201 := n2_; have HB := n3_; clear n0_ n1_ n2_ n3_; (try clear hb); (try clear hb2); (try clear hk); (try clear hi); (try clear ho0)))
             go_loopg [5, 9] kj9 (fun kq v5 v9 w' => ∃ (x5_4 : List (S55)) (x9_4 : Int), v9 = .int .i64 x9_4 ∧ Aside0 (interlockref08_Find.l2 kq l1 x5_4 x7_2 t206 x9_4 a0_0 a0_1 a0_2 l0_3 a0_4 a0_5 l0_6 = some r) ∧ Aside0 (kq ≤ kj9) ∧ Aside0 (Kd.R k55 55 w' w.heap.size (fun _ => True) v5 x5_4) ∧ Aside0 (Kd.R (Kd.int .i64) 3 w' w.heap.size (fun _ => True) v207 t206) ∧ Aside0 (w'.heap[gb201]? = some (.cells #[.int .i64 a0_0, .int .i64 a0_1, .int .i64 a0_2, (.slice A0_3 l0_3.length c0_3), .int .i64 a0_4, .int .i64 a0_5, (.slice A0_6 l0_6.length c0_6)] 29 (0, 0))) ∧ Aside0 (Below w.heap.size w w'))
             case atStart => exact ⟨(x5_2), (0), (by first | rfl | (simp; done) | (simp [*]; done)), H', ⟨Nat.le_refl _⟩, ⟨by (with_reducible repeat (first | apply Kd.R_alloc | apply Kd.R_drewN | apply Kd.R_drew)); exact HO_5.out⟩, ⟨by (with_reducible repeat (first | apply Kd.R_alloc | apply Kd.R_drewN | apply Kd.R_drew)); exact HO208.out⟩, ⟨by (with_reducible repeat (first | refine blk_drewN ?_ _ | refine blk_drew ?_ | refine blk_alloc ?_ _)); exact BK201.out⟩, ⟨by repeat (first | (with_reducible first | exact HB.out | apply below_alloc | apply pw_below_drewN | apply below_drew1 | refine below_set ?_ GE201.out) | exact HB.out)⟩⟩
             case round =>
              clear H'
              try clear c1
              try clear c2
              try clear p2
              try clear q2
              try clear hx2
              try clear c4
              try clear c4b0
              try clear c5
              try clear c5b0
              try clear c5b1
              try clear c6
              try clear c6b0
              try clear p6
              try clear c7
              try clear c7b0
              try clear c8
              try clear c8b0
              try clear c9
              try clear c9b0
              try clear c11
              try clear c11b0
              try clear c12
              try clear c12b0
              try clear c12b1
              try clear c13
              try clear hcz15_0
              try clear hcz15_1
              try clear hcz15_2
              try clear hcz15_3
              try clear hcz15_4
              try clear hcz15_5
              try clear hcz15_6
              try clear hfz15_0
              try clear hfz15_1
              try clear hfz15_2
              try clear hfz15_3
              try clear hfz15_4
              try clear hfz15_5
              try clear hfz15_6
              try clear hx202_0
              try clear hx202_1
              try clear hx202_2
              try clear hx202_3
              try clear hx202_4
              try clear hx202_5
              try clear hx203_0
              try clear hx203_1
              try clear hx203_2
              try clear hx203_3
              try clear hx203_4
              try clear hx203_5
              try clear hx204_0
              try clear hx204_1
              try clear hx204_2
              try clear hx204_3
              try clear hx204_4
              try clear hx204_5
              try clear hx205_0
              try clear hx205_1
              try clear hx205_2
              try clear hx205_3
              try clear hx205_4
              try clear hx205_5
              try clear p2
              try clear p202
              try clear p203
              try clear p204
              try clear p205
              try clear p6
              try clear q2
              try clear q202
              try clear q203
              try clear q204
              try clear q205
              obtain ⟨x5_4, x9_4, rfl, HA, HK4, HO_5, HO_8, BK201, HB⟩ := hrel
              cases gk with
              | zero => exact absurd HA.out (by simp [interlockref08_Find.l2])
              | succ k4 =>
               have H := HA.out
               clear HA
               simp only [interlockref08_Find.l2] at H
               by_cases c17 : x9_4 < 6
               · rw [if_pos c17] at H
                 have c17b0 : decide (x9_4 < 6) = true := decide_eq_true c17
                 clear c17
                 have H' := Aside0.mk H
                 clear H
                 go_wp2
                 go_loopg [10, 11] k4 (fun kq v10 v11 w' => ∃ (x10_5 : Int) (x11_5 : Int), v10 = .int .i64 x10_5 ∧ v11 = .int .i64 x11_5 ∧ Aside0 (interlockref08_Find.l3 kq l1 x5_4 x7_2 t206 x9_4 x10_5 x11_5 a0_0 a0_1 a0_2 l0_3 a0_4 a0_5 l0_6 = some r) ∧ Aside0 (kq ≤ k4) ∧ Aside0 (Kd.R k55 55 w' w.heap.size (fun _ => True) u5 x5_4) ∧ Aside0 (Kd.R (Kd.int .i64) 3 w' w.heap.size (fun _ => True) v207 t206) ∧ Aside0 (w'.heap[gb201]? = some (.cells #[.int .i64 a0_0, .int .i64 a0_1, .int .i64 a0_2, (.slice A0_3 l0_3.length c0_3), .int .i64 a0_4, .int .i64 a0_5, (.slice A0_6 l0_6.length c0_6)] 29 (0, 0))) ∧ Aside0 (Below w.heap.size w w'))
                 case atStart => exact ⟨((-1)), (0), (by first | rfl | (simp; done) | (simp [*]; done)), (by first | rfl | (simp; done) | (simp [*]; done)), H', ⟨Nat.le_refl _⟩, ⟨by (with_reducible repeat (first | apply Kd.R_alloc | apply Kd.R_drewN | apply Kd.R_drew)); exact HO_5.out⟩, ⟨by (with_reducible repeat (first | apply Kd.R_alloc | apply Kd.R_drewN | apply Kd.R_drew)); exact HO_8.out⟩, ⟨by (with_reducible repeat (first | refine blk_drewN ?_ _ | refine blk_drew ?_ | refine blk_alloc ?_ _)); exact BK201.out⟩, ⟨by repeat (first | (with_reducible first | exact HB.out | apply below_alloc | apply pw_below_drewN | apply below_drew1 | refine below_set ?_ GE201.out) | exact HB.out)⟩⟩
                 case round =>
                  clear H'
                  try clear c1
                  try clear c2
                  try clear p2
                  try clear q2
                  try clear hx2
                  try clear c4
                  try clear c4b0
                  try clear c5
                  try clear c5b0
                  try clear c5b1
                  try clear c6
                  try clear c6b0
                  try clear p6
                  try clear c7
                  try clear c7b0
                  try clear c8
                  try clear c8b0
                  try clear c9
                  try clear c9b0
                  try clear c11
                  try clear c11b0
                  try clear c12
                  try clear c12b0
                  try clear c12b1
                  try clear c13
                  try clear c17
                  try clear c17b0
                  try clear hcz15_0
                  try clear hcz15_1
                  try clear hcz15_2
                  try clear hcz15_3
                  try clear hcz15_4
                  try clear hcz15_5
                  try clear hcz15_6
                  try clear hfz15_0
                  try clear hfz15_1
                  try clear hfz15_2
                  try clear hfz15_3
                  try clear hfz15_4
                  try clear hfz15_5
                  try clear hfz15_6
                  try clear hx202_0
                  try clear hx202_1
                  try clear hx202_2
                  try clear hx202_3
                  try clear hx202_4
                  try clear hx202_5
                  try clear hx203_0
                  try clear hx203_1
                  try clear hx203_2
                  try clear hx203_3
                  try clear hx203_4
                  try clear hx203_5
                  try clear hx204_0
                  try clear hx204_1
                  try clear hx204_2
                  try clear hx204_3
                  try clear hx204_4
                  try clear hx204_5
                  try clear hx205_0
                  try clear hx205_1
                  try clear hx205_2
                  try clear hx205_3
                  try clear hx205_4
                  try clear hx205_5
                  try clear p2
                  try clear p202
                  try clear p203
                  try clear p204
                  try clear p205
                  try clear p6
                  try clear q2
                  try clear q202
                  try clear q203
                  try clear q204
                  try clear q205
                  obtain ⟨x10_5, x11_5, rfl, rfl, HA, HK5, HO_5, HO_8, BK201, HB⟩ := hrel
                  cases gk with
                  | zero => exact absurd HA.out (by simp [interlockref08_Find.l3])
                  | succ k5 =>
                   have H := HA.out
                   clear HA
                   simp only [interlockref08_Find.l3] at H
                   by_cases c18 : x11_5 < x7_2
                   · rw [if_pos c18] at H
                     have c18b0 : decide (x11_5 < x7_2) = true := decide_eq_true c18
                     clear c18
                     by_cases c19 : 0 ≤ x11_5
                     · rw [if_pos c19] at H
                       have c19b0 : decide (0 ≤ x11_5) = true := decide_eq_true c19
                       clear c19
                       by_cases c20 : x11_5 < (l1.length : Int)
                       · rw [if_pos c20] at H
                         have c20b0 : decide (x11_5 < (l1.length : Int)) = true := decide_eq_true c20
                         clear c20
                         by_cases c21 : ((rd_T40 l1 x11_5).f0) = x9_4
                         · rw [if_pos c21] at H
                           have c21b0 : (((rd_T40 l1 x11_5).f0) == x9_4) = true := beq_iff_eq.mpr c21
                           have c21b1 : (((rd_T40 l1 x11_5).f0) != x9_4) = false := bne_eq_false_iff_eq.mpr c21
                           clear c21
                           by_cases c22 : 0 ≤ x7_2
                           · rw [if_pos c22] at H
                             have c22b0 : decide (0 ≤ x7_2) = true := decide_eq_true c22
                             clear c22
                             by_cases c23 : x7_2 < (l1.length : Int)
                             · rw [if_pos c23] at H
                               have c23b0 : decide (x7_2 < (l1.length : Int)) = true := decide_eq_true c23
                               clear c23
                               replace H := Option.bind_eq_some_iff.mp H
                               obtain ⟨t212, A240, H⟩ := H
                               replace H : (if t212 = true then (interlockref08_Find.l3 k5 l1 x5_4 x7_2 t206 x9_4 x11_5 (wrap64 (x11_5 + 1)) a0_0 a0_1 a0_2 l0_3 a0_4 a0_5 l0_6) else (interlockref08_Find.l3 k5 l1 x5_4 x7_2 t206 x9_4 x10_5 (wrap64 (x11_5 + 1)) a0_0 a0_1 a0_2 l0_3 a0_4 a0_5 l0_6)) = some r := H
                               have A24 := Aside0.mk A240
                               clear A240
                               by_cases c25 : t212 = true
                               · subst c25
                                 have H1 : (interlockref08_Find.l3 k5 l1 x5_4 x7_2 t206 x9_4 x11_5 (wrap64 (x11_5 + 1)) a0_0 a0_1 a0_2 l0_3 a0_4 a0_5 l0_6) = some r := by rw [if_pos rfl] at H; exact H
                                 clear H
                                 have H := H1
                                 clear H1
                                 have H' := Aside0.mk H
                                 clear H
                                 try go_wp2
                                 have n0_ := Aside0.mk (Kd.R_drew HO_5.out)
                                 have n1_ := Aside0.mk (Kd.R_drew HO_8.out)
                                 have n2_ := Aside0.mk (blk_drew BK201.out)
                                 have n3_ := Aside0.mk (below_drew1 HB.out)
                                 clear HO_5
                                 clear HO_8
                                 clear BK201
                                 clear HB
                                 have HO_5 := n0_
                                 have HO_8 := n1_
                                 have BK201 := n2_
                                 have HB := n3_
                                 clear n0_ n1_ n2_ n3_
                                 have p209 : 0 ≤ (x11_5 : Int) := of_decide_eq_true (by first | (with_reducible assumption) | assumption)
                                 have q209 : x11_5 < (l1.length : Int) := of_decide_eq_true (by first | (with_reducible assumption) | assumption)
                                 obtain ⟨ad209, e209, hx209_0, hx209_1, hx209_2, hx209_3, hx209_4, hx209_5⟩ := at_T40 HR1.out x11_5 p209 q209
                                 have hw209_5 := hx209_5
                                 have hw209_4 := hx209_4
                                 have hw209_3 := hx209_3
                                 have hw209_2 := hx209_2
                                 have hw209_1 := hx209_1
                                 have hw209_0 := hx209_0
                                 cases e209
                                 replace hx209_0 := (HB.out.cell (World.block_lt_of_cell? w _ hx209_0)).trans hx209_0
                                 replace hx209_1 := (HB.out.cell (World.block_lt_of_cell? w _ hx209_1)).trans hx209_1
                                 replace hx209_2 := (HB.out.cell (World.block_lt_of_cell? w _ hx209_2)).trans hx209_2
                                 replace hx209_3 := (HB.out.cell (World.block_lt_of_cell? w _ hx209_3)).trans hx209_3
                                 replace hx209_4 := (HB.out.cell (World.block_lt_of_cell? w _ hx209_4)).trans hx209_4
                                 replace hx209_5 := (HB.out.cell (World.block_lt_of_cell? w _ hx209_5)).trans hx209_5
                                 replace p209 := eq_true p209
                                 replace q209 := eq_true q209
                                 have p210 : 0 ≤ (x11_5 : Int) := of_decide_eq_true (by first | (with_reducible assumption) | assumption)
                                 have q210 : x11_5 < (l1.length : Int) := of_decide_eq_true (by first | (with_reducible assumption) | assumption)
                                 obtain ⟨ad210, e210, hx210_0, hx210_1, hx210_2, hx210_3, hx210_4, hx210_5⟩ := at_T40 HR1.out x11_5 p210 q210
                                 have hw210_5 := hx210_5
                                 have hw210_4 := hx210_4
                                 have hw210_3 := hx210_3
                                 have hw210_2 := hx210_2
                                 have hw210_1 := hx210_1
                                 have hw210_0 := hx210_0
                                 obtain rfl : ad209 = ad210 := (by injection e210)
                                 replace hx210_0 := (HB.out.cell (World.block_lt_of_cell? w _ hx210_0)).trans hx210_0
                                 replace hx210_1 := (HB.out.cell (World.block_lt_of_cell? w _ hx210_1)).trans hx210_1
                                 replace hx210_2 := (HB.out.cell (World.block_lt_of_cell? w _ hx210_2)).trans hx210_2
                                 replace hx210_3 := (HB.out.cell (World.block_lt_of_cell? w _ hx210_3)).trans hx210_3
                                 replace hx210_4 := (HB.out.cell (World.block_lt_of_cell? w _ hx210_4)).trans hx210_4
                                 replace hx210_5 := (HB.out.cell (World.block_lt_of_cell? w _ hx210_5)).trans hx210_5
                                 replace p210 := eq_true p210
                                 replace q210 := eq_true q210
                                 have p211 : 0 ≤ (x7_2 : Int) := of_decide_eq_true (by first | (with_reducible assumption) | assumption)
                                 have q211 : x7_2 < (l1.length : Int) := of_decide_eq_true (by first | (with_reducible assumption) | assumption)
                                 obtain ⟨ad211, e211, hx211_0, hx211_1, hx211_2, hx211_3, hx211_4, hx211_5⟩ := at_T40 HR1.out x7_2 p211 q211
                                 have hw211_5 := hx211_5
                                 have hw211_4 := hx211_4
                                 have hw211_3 := hx211_3
                                 have hw211_2 := hx211_2
                                 have hw211_1 := hx211_1
                                 have hw211_0 := hx211_0
                                 obtain rfl : ad209 = ad211 := (by injection e211)
                                 replace hx211_0 := (HB.out.cell (World.block_lt_of_cell? w _ hx211_0)).trans hx211_0
                                 replace hx211_1 := (HB.out.cell (World.block_lt_of_cell? w _ hx211_1)).trans hx211_1
                                 replace hx211_2 := (HB.out.cell (World.block_lt_of_cell? w _ hx211_2)).trans hx211_2
                                 replace hx211_3 := (HB.out.cell (World.block_lt_of_cell? w _ hx211_3)).trans hx211_3
                                 replace hx211_4 := (HB.out.cell (World.block_lt_of_cell? w _ hx211_4)).trans hx211_4
                                 replace hx211_5 := (HB.out.cell (World.block_lt_of_cell? w _ hx211_5)).trans hx211_5
                                 replace p211 := eq_true p211
                                 replace q211 := eq_true q211
                                 refine start_ (n := 18) (S := fun w' => w'.cell? (ad209.add ((x11_5).toNat * 6)) = some (.int .i64 ((rd_T40 l1 x11_5).f0)) ∧ w'.cell? ⟨(ad209.add ((x11_5).toNat * 6)).block, (ad209.add ((x11_5).toNat * 6)).off + 1, none⟩ = some (.int .i64 ((rd_T40 l1 x11_5).f1)) ∧ w'.cell? ⟨(ad209.add ((x11_5).toNat * 6)).block, (ad209.add ((x11_5).toNat * 6)).off + 2, none⟩ = some (.int .u8 ((rd_T40 l1 x11_5).f2)) ∧ w'.cell? ⟨(ad209.add ((x11_5).toNat * 6)).block, (ad209.add ((x11_5).toNat * 6)).off + 3, none⟩ = some (.int .i64 ((rd_T40 l1 x11_5).f3)) ∧ w'.cell? ⟨(ad209.add ((x11_5).toNat * 6)).block, (ad209.add ((x11_5).toNat * 6)).off + 4, none⟩ = some (.int .i64 ((rd_T40 l1 x11_5).f4)) ∧ w'.cell? ⟨(ad209.add ((x11_5).toNat * 6)).block, (ad209.add ((x11_5).toNat * 6)).off + 5, none⟩ = some (.int .i64 ((rd_T40 l1 x11_5).f5)) ∧ w'.cell? (ad209.add ((x11_5).toNat * 6)) = some (.int .i64 ((rd_T40 l1 x11_5).f0)) ∧ w'.cell? ⟨(ad209.add ((x11_5).toNat * 6)).block, (ad209.add ((x11_5).toNat * 6)).off + 1, none⟩ = some (.int .i64 ((rd_T40 l1 x11_5).f1)) ∧ w'.cell? ⟨(ad209.add ((x11_5).toNat * 6)).block, (ad209.add ((x11_5).toNat * 6)).off + 2, none⟩ = some (.int .u8 ((rd_T40 l1 x11_5).f2)) ∧ w'.cell? ⟨(ad209.add ((x11_5).toNat * 6)).block, (ad209.add ((x11_5).toNat * 6)).off + 3, none⟩ = some (.int .i64 ((rd_T40 l1 x11_5).f3)) ∧ w'.cell? ⟨(ad209.add ((x11_5).toNat * 6)).block, (ad209.add ((x11_5).toNat * 6)).off + 4, none⟩ = some (.int .i64 ((rd_T40 l1 x11_5).f4)) ∧ w'.cell? ⟨(ad209.add ((x11_5).toNat * 6)).block, (ad209.add ((x11_5).toNat * 6)).off + 5, none⟩ = some (.int .i64 ((rd_T40 l1 x11_5).f5)) ∧ w'.cell? (ad209.add ((x7_2).toNat * 6)) = some (.int .i64 ((rd_T40 l1 x7_2).f0)) ∧ w'.cell? ⟨(ad209.add ((x7_2).toNat * 6)).block, (ad209.add ((x7_2).toNat * 6)).off + 1, none⟩ = some (.int .i64 ((rd_T40 l1 x7_2).f1)) ∧ w'.cell? ⟨(ad209.add ((x7_2).toNat * 6)).block, (ad209.add ((x7_2).toNat * 6)).off + 2, none⟩ = some (.int .u8 ((rd_T40 l1 x7_2).f2)) ∧ w'.cell? ⟨(ad209.add ((x7_2).toNat * 6)).block, (ad209.add ((x7_2).toNat * 6)).off + 3, none⟩ = some (.int .i64 ((rd_T40 l1 x7_2).f3)) ∧ w'.cell? ⟨(ad209.add ((x7_2).toNat * 6)).block, (ad209.add ((x7_2).toNat * 6)).off + 4, none⟩ = some (.int .i64 ((rd_T40 l1 x7_2).f4)) ∧ w'.cell? ⟨(ad209.add ((x7_2).toNat * 6)).block, (ad209.add ((x7_2).toNat * 6)).off + 5, none⟩ = some (.int .i64 ((rd_T40 l1 x7_2).f5))) (ds := []) (bl 18 0) (by kernel_rfl) rfl rfl ⟨((HB.out.cell (World.block_lt_of_cell? w _ hw209_0)).trans hw209_0), ((HB.out.cell (World.block_lt_of_cell? w _ hw209_1)).trans hw209_1), ((HB.out.cell (World.block_lt_of_cell? w _ hw209_2)).trans hw209_2), ((HB.out.cell (World.block_lt_of_cell? w _ hw209_3)).trans hw209_3), ((HB.out.cell (World.block_lt_of_cell? w _ hw209_4)).trans hw209_4), ((HB.out.cell (World.block_lt_of_cell? w _ hw209_5)).trans hw209_5), ((HB.out.cell (World.block_lt_of_cell? w _ hw210_0)).trans hw210_0), ((HB.out.cell (World.block_lt_of_cell? w _ hw210_1)).trans hw210_1), ((HB.out.cell (World.block_lt_of_cell? w _ hw210_2)).trans hw210_2), ((HB.out.cell (World.block_lt_of_cell? w _ hw210_3)).trans hw210_3), ((HB.out.cell (World.block_lt_of_cell? w _ hw210_4)).trans hw210_4), ((HB.out.cell (World.block_lt_of_cell? w _ hw210_5)).trans hw210_5), ((HB.out.cell (World.block_lt_of_cell? w _ hw211_0)).trans hw211_0), ((HB.out.cell (World.block_lt_of_cell? w _ hw211_1)).trans hw211_1), ((HB.out.cell (World.block_lt_of_cell? w _ hw211_2)).trans hw211_2), ((HB.out.cell (World.block_lt_of_cell? w _ hw211_3)).trans hw211_3), ((HB.out.cell (World.block_lt_of_cell? w _ hw211_4)).trans hw211_4), ((HB.out.cell (World.block_lt_of_cell? w _ hw211_5)).trans hw211_5)⟩ (fun hHeld => ?_); refine with_tabW interlockref08_Find.tab19 interlockref08_Find.bits19 (fun HT_ HW_ => ?_)
                                 generalize wr.drew = w26 at HO_5 HO_8 BK201 HB hx209_0 hx209_1 hx209_2 hx209_3 hx209_4 hx209_5 hx210_0 hx210_1 hx210_2 hx210_3 hx210_4 hx210_5 hx211_0 hx211_1 hx211_2 hx211_3 hx211_4 hx211_5 hHeld ⊢
                                 refine pure_ (i := 0) (N := some 70) (v := ?_) (a' := ?_) (bl 18 1) rfl rfl (any_of HT_.out (by kernel_rfl)) (fun _ _ _ h => h) (Or.inl ⟨by rfl, ?_⟩) ?_ ?_
                                 rotate_left
                                 · intro w'
                                   go_simp
                                   with_reducible rfl
                                 rotate_left
                                 · simp only [Act.put, List.setIfInBounds_toArray, List.set_cons_zero, List.set_cons_succ, i64_w, i32_w]
                                   rfl
                                 refine pure_ (i := 1) (N := some 71) (v := ?_) (a' := ?_) (bl 18 3) rfl rfl (any_of HT_.out (by kernel_rfl)) (fun _ _ _ h => h) (Or.inl ⟨by rfl, ?_⟩) ?_ ?_
                                 rotate_left
                                 · intro w'
                                   go_simp
                                   with_reducible rfl
                                 rotate_left
                                 · simp only [Act.put, List.setIfInBounds_toArray, List.set_cons_zero, List.set_cons_succ, i64_w, i32_w]
                                   rfl
                                 refine pure_ (i := 2) (N := some 72) (v := ?_) (a' := ?_) (bl 18 7) rfl rfl (any_of HT_.out (by kernel_rfl)) (fun _ _ _ h => h) (Or.inl ⟨by rfl, ?_⟩) ?_ ?_
                                 rotate_left
                                 · intro w'
                                   go_simp
                                   with_reducible rfl
                                 rotate_left
                                 · simp only [Act.put, List.setIfInBounds_toArray, List.set_cons_zero, List.set_cons_succ, i64_w, i32_w]
                                   rfl
                                 refine pure_ (i := 3) (N := some 73) (v := ?_) (a' := ?_) (bl 18 15) rfl rfl (any_of HT_.out (by kernel_rfl)) (fun _ _ _ h => h) (Or.inl ⟨by rfl, ?_⟩) ?_ ?_
                                 rotate_left
                                 · intro w'
                                   go_simp
                                   with_reducible rfl
                                 rotate_left
                                 · simp only [Act.put, List.setIfInBounds_toArray, List.set_cons_zero, List.set_cons_succ, i64_w, i32_w]
                                   rfl
                                 refine pure_ (i := 5) (N := some 75) (v := ?_) (a' := ?_) (bl 18 47) rfl rfl (any_of HT_.out (by kernel_rfl)) (fun _ _ _ h => h) (Or.inl ⟨by rfl, ?_⟩) ?_ ?_
                                 rotate_left
                                 · intro w'
                                   go_simp
                                   with_reducible rfl
                                 rotate_left
                                 · simp only [Act.put, List.setIfInBounds_toArray, List.set_cons_zero, List.set_cons_succ, i64_w, i32_w]
                                   rfl
                                 refine take_ (i := 4) (N := some 74) (v := ?_) (a' := ?_) (bl 18 63) rfl rfl (take_ofW HT_.out HW_.out (by kernel_rfl)) (fun _ _ _ h => h) (Or.inl ⟨by rfl, ?_⟩) hHeld ?_ ?_
                                 rotate_left
                                 · rintro w' ⟨s0, s1, s2, s3, s4, s5, s6, s7, s8, s9, s10, s11, s12, s13, s14, s15, s16, s17⟩
                                   go_simp
                                   with_reducible rfl
                                 rotate_left
                                 · simp only [Act.put, List.setIfInBounds_toArray, List.set_cons_zero, List.set_cons_succ, i64_w, i32_w]
                                   rfl
                                 refine pure_ (i := 6) (N := some 76) (v := ?_) (a' := ?_) (bl 18 127) rfl rfl (any_of HT_.out (by kernel_rfl)) (fun _ _ _ h => h) (Or.inl ⟨by rfl, ?_⟩) ?_ ?_
                                 rotate_left
                                 · intro w'
                                   go_simp
                                   with_reducible rfl
                                 rotate_left
                                 · simp only [Act.put, List.setIfInBounds_toArray, List.set_cons_zero, List.set_cons_succ, i64_w, i32_w]
                                   rfl
                                 refine pure_ (i := 7) (N := some 77) (v := ?_) (a' := ?_) (bl 18 255) rfl rfl (any_of HT_.out (by kernel_rfl)) (fun _ _ _ h => h) (Or.inl ⟨by rfl, ?_⟩) ?_ ?_
                                 rotate_left
                                 · intro w'
                                   go_simp
                                   with_reducible rfl
                                 rotate_left
                                 · simp only [Act.put, List.setIfInBounds_toArray, List.set_cons_zero, List.set_cons_succ, i64_w, i32_w]
                                   rfl
                                 refine pure_ (i := 8) (N := some 78) (v := ?_) (a' := ?_) (bl 18 511) rfl rfl (any_of HT_.out (by kernel_rfl)) (fun _ _ _ h => h) (Or.inl ⟨by rfl, ?_⟩) ?_ ?_
                                 rotate_left
                                 · intro w'
                                   go_simp
                                   with_reducible rfl
                                 rotate_left
                                 · simp only [Act.put, List.setIfInBounds_toArray, List.set_cons_zero, List.set_cons_succ, i64_w, i32_w]
                                   rfl
                                 refine pure_ (i := 9) (N := some 79) (v := ?_) (a' := ?_) (bl 18 1023) rfl rfl (any_of HT_.out (by kernel_rfl)) (fun _ _ _ h => h) (Or.inl ⟨by rfl, ?_⟩) ?_ ?_
                                 rotate_left
                                 · intro w'
                                   go_simp
                                   with_reducible rfl
                                 rotate_left
                                 · simp only [Act.put, List.setIfInBounds_toArray, List.set_cons_zero, List.set_cons_succ, i64_w, i32_w]
                                   rfl
                                 refine pure_ (i := 10) (N := some 80) (v := ?_) (a' := ?_) (bl 18 2047) rfl rfl (any_of HT_.out (by kernel_rfl)) (fun _ _ _ h => h) (Or.inl ⟨by rfl, ?_⟩) ?_ ?_
                                 rotate_left
                                 · intro w'
                                   go_simp
                                   with_reducible rfl
                                 rotate_left
                                 · simp only [Act.put, List.setIfInBounds_toArray, List.set_cons_zero, List.set_cons_succ, i64_w, i32_w]
                                   rfl
                                 refine pure_ (i := 12) (N := some 82) (v := ?_) (a' := ?_) (bl 18 6143) rfl rfl (any_of HT_.out (by kernel_rfl)) (fun _ _ _ h => h) (Or.inl ⟨by rfl, ?_⟩) ?_ ?_
                                 rotate_left
                                 · intro w'
                                   go_simp
                                   with_reducible rfl
                                 rotate_left
                                 · simp only [Act.put, List.setIfInBounds_toArray, List.set_cons_zero, List.set_cons_succ, i64_w, i32_w]
                                   rfl
                                 refine pure_ (i := 13) (N := some 83) (v := ?_) (a' := ?_) (bl 18 14335) rfl rfl (any_of HT_.out (by kernel_rfl)) (fun _ _ _ h => h) (Or.inl ⟨by rfl, ?_⟩) ?_ ?_
                                 rotate_left
                                 · intro w'
                                   go_simp
                                   with_reducible rfl
                                 rotate_left
                                 · simp only [Act.put, List.setIfInBounds_toArray, List.set_cons_zero, List.set_cons_succ, i64_w, i32_w]
                                   rfl
                                 refine pure_ (i := 14) (N := some 84) (v := ?_) (a' := ?_) (bl 18 30719) rfl rfl (any_of HT_.out (by kernel_rfl)) (fun _ _ _ h => h) (Or.inl ⟨by rfl, ?_⟩) ?_ ?_
                                 rotate_left
                                 · intro w'
                                   go_simp
                                   with_reducible rfl
                                 rotate_left
                                 · simp only [Act.put, List.setIfInBounds_toArray, List.set_cons_zero, List.set_cons_succ, i64_w, i32_w]
                                   rfl
                                 refine take_ (i := 11) (N := some 81) (v := ?_) (a' := ?_) (bl 18 32767) rfl rfl (take_ofW HT_.out HW_.out (by kernel_rfl)) (fun _ _ _ h => h) (Or.inl ⟨by rfl, ?_⟩) hHeld ?_ ?_
                                 rotate_left
                                 · rintro w' ⟨s0, s1, s2, s3, s4, s5, s6, s7, s8, s9, s10, s11, s12, s13, s14, s15, s16, s17⟩
                                   go_simp
                                   with_reducible rfl
                                 rotate_left
                                 · simp only [Act.put, List.setIfInBounds_toArray, List.set_cons_zero, List.set_cons_succ, i64_w, i32_w]
                                   rfl
                                 refine take_ (i := 15) (N := some 85) (v := ?_) (a' := ?_) (bl 18 65535) rfl rfl (take_ofW HT_.out HW_.out (by kernel_rfl)) (fun _ _ _ h => h) (Or.inl ⟨by rfl, ?_⟩) hHeld ?_ ?_
                                 rotate_left
                                 · rintro w' ⟨s0, s1, s2, s3, s4, s5, s6, s7, s8, s9, s10, s11, s12, s13, s14, s15, s16, s17⟩
                                   go_simp
                                   with_reducible rfl
                                 rotate_left
                                 · simp only [Act.put, List.setIfInBounds_toArray, List.set_cons_zero, List.set_cons_succ, i64_w, i32_w]
                                   rfl
                                 refine one_ (i := 16) (N := some 86) (bl 18 131071) rfl rfl (one_of HT_.out (by kernel_rfl)) (by decide) (fun K hK => ?_)
                                 refine goes_ Try.func22 (by kernel_rfl) rfl #[.agg #[.int .i64 ((rd_T40 l1 x11_5).f0), .int .i64 ((rd_T40 l1 x11_5).f1), .int .u8 ((rd_T40 l1 x11_5).f2), .int .i64 ((rd_T40 l1 x11_5).f3), .int .i64 ((rd_T40 l1 x11_5).f4), .int .i64 ((rd_T40 l1 x11_5).f5)], .agg #[.int .i64 ((rd_T40 l1 x7_2).f0), .int .i64 ((rd_T40 l1 x7_2).f1), .int .u8 ((rd_T40 l1 x7_2).f2), .int .i64 ((rd_T40 l1 x7_2).f3), .int .i64 ((rd_T40 l1 x7_2).f4), .int .i64 ((rd_T40 l1 x7_2).f5)]] (by rfl) rfl rfl (by (try simp only [List.map_toArray, List.map_cons, List.map_nil]); first | done | rfl | (simp only [List.length_drop, List.length_take]; rfl)) ?_
                                 with_reducible refine (interlockref08_Conflict.calls ((rd_T40 l1 x11_5).f0) ((rd_T40 l1 x11_5).f1) ((rd_T40 l1 x11_5).f2) ((rd_T40 l1 x11_5).f3) ((rd_T40 l1 x11_5).f4) ((rd_T40 l1 x11_5).f5) ((rd_T40 l1 x7_2).f0) ((rd_T40 l1 x7_2).f1) ((rd_T40 l1 x7_2).f2) ((rd_T40 l1 x7_2).f3) ((rd_T40 l1 x7_2).f4) ((rd_T40 l1 x7_2).f5) true _ A24.out).mono ?_
                                 rintro e w27 ⟨rfl, hb⟩
                                 refine ⟨_, rfl, ?_⟩
                                 have n0_ := Aside0.mk (Kd.R_below (by (with_reducible repeat (first | apply Kd.R_alloc | apply Kd.R_drewN | apply Kd.R_drew)); exact HO_5.out) hb)
                                 have n1_ := Aside0.mk (Kd.R_below (by (with_reducible repeat (first | apply Kd.R_alloc | apply Kd.R_drewN | apply Kd.R_drew)); exact HO_8.out) hb)
                                 have n2_ := Aside0.mk (blk_below (g := gb201) (o := .cells #[.int .i64 a0_0, .int .i64 a0_1, .int .i64 a0_2, .slice A0_3 l0_3.length c0_3, .int .i64 a0_4, .int .i64 a0_5, .slice A0_6 l0_6.length c0_6] 29 (0, 0)) (by (with_reducible repeat (first | refine blk_drewN ?_ _ | refine blk_drew ?_ | refine blk_alloc ?_ _)); exact BK201.out) hb)
                                 have n3_ := Aside0.mk (below_step (by repeat (first | (with_reducible first | exact HB.out | apply below_alloc | apply pw_below_drewN | apply below_drew1 | refine below_set ?_ GE201.out) | exact HB.out)) hb)
                                 clear HO_5
                                 clear HO_8
                                 clear BK201
                                 clear HB
                                 have HO_5 := n0_
                                 have HO_8 := n1_
                                 have BK201 := n2_
                                 have HB := n3_
                                 clear n0_ n1_ n2_ n3_
                                 (try clear hb)
                                 (try clear hb2)
                                 (try clear hk)
                                 (try clear hi)
                                 refine hK.out _ _ ⟨((HB.out.cell (World.block_lt_of_cell? w _ hw209_0)).trans hw209_0), ((HB.out.cell (World.block_lt_of_cell? w _ hw209_1)).trans hw209_1), ((HB.out.cell (World.block_lt_of_cell? w _ hw209_2)).trans hw209_2), ((HB.out.cell (World.block_lt_of_cell? w _ hw209_3)).trans hw209_3), ((HB.out.cell (World.block_lt_of_cell? w _ hw209_4)).trans hw209_4), ((HB.out.cell (World.block_lt_of_cell? w _ hw209_5)).trans hw209_5), ((HB.out.cell (World.block_lt_of_cell? w _ hw210_0)).trans hw210_0), ((HB.out.cell (World.block_lt_of_cell? w _ hw210_1)).trans hw210_1), ((HB.out.cell (World.block_lt_of_cell? w _ hw210_2)).trans hw210_2), ((HB.out.cell (World.block_lt_of_cell? w _ hw210_3)).trans hw210_3), ((HB.out.cell (World.block_lt_of_cell? w _ hw210_4)).trans hw210_4), ((HB.out.cell (World.block_lt_of_cell? w _ hw210_5)).trans hw210_5), ((HB.out.cell (World.block_lt_of_cell? w _ hw211_0)).trans hw211_0), ((HB.out.cell (World.block_lt_of_cell? w _ hw211_1)).trans hw211_1), ((HB.out.cell (World.block_lt_of_cell? w _ hw211_2)).trans hw211_2), ((HB.out.cell (World.block_lt_of_cell? w _ hw211_3)).trans hw211_3), ((HB.out.cell (World.block_lt_of_cell? w _ hw211_4)).trans hw211_4), ((HB.out.cell (World.block_lt_of_cell? w _ hw211_5)).trans hw211_5)⟩ (fun hHeld => ?_)
                                 clear hK K
                                 refine norm_ (a' := ?_) ?_ ?_
                                 rotate_left
                                 · show Act.put _ (some 86) _ = _
                                   simp only [Act.put, List.setIfInBounds_toArray, List.set_cons_zero, List.set_cons_succ, i64_w, i32_w]
                                   rfl
                                 refine pure_ (i := 17) (N := some 87) (v := ?_) (a' := ?_) (bl 18 262143) rfl rfl (any_of HT_.out (by kernel_rfl)) (fun _ _ _ h => h) (Or.inl ⟨by rfl, ?_⟩) ?_ ?_
                                 rotate_left
                                 · intro w'
                                   go_simp
                                   with_reducible rfl
                                 rotate_left
                                 · simp only [Act.put, List.setIfInBounds_toArray, List.set_cons_zero, List.set_cons_succ, i64_w, i32_w]
                                   rfl
                                 refine done_ (done_of HT_.out (by kernel_rfl)) ?_
                                 try go_wp2
                                 go_roundg k5
                                 case measure => have := HK1.out; have := HK2.out; have := HJ9.out; have := HK4.out; have := HK5.out; omega
                                 case rel => exact ⟨(x11_5), (wrap64 (x11_5 + 1)), (by first | rfl | (simp; done) | (simp [*]; done)), (by first | rfl | (simp; done) | (simp [*]; done)), H', ⟨by have := HK1.out; have := HK2.out; have := HJ9.out; have := HK4.out; have := HK5.out; omega⟩, ⟨by (with_reducible repeat (first | apply Kd.R_alloc | apply Kd.R_drewN | apply Kd.R_drew)); exact HO_5.out⟩, ⟨by (with_reducible repeat (first | apply Kd.R_alloc | apply Kd.R_drewN | apply Kd.R_drew)); exact HO_8.out⟩, ⟨by (with_reducible repeat (first | refine blk_drewN ?_ _ | refine blk_drew ?_ | refine blk_alloc ?_ _)); exact BK201.out⟩, ⟨by repeat (first | (with_reducible first | exact HB.out | apply below_alloc | apply pw_below_drewN | apply below_drew1 | refine below_set ?_ GE201.out) | exact HB.out)⟩⟩
                               · replace c25 := Bool.eq_false_iff.mpr c25
                                 subst c25
                                 have H1 : (interlockref08_Find.l3 k5 l1 x5_4 x7_2 t206 x9_4 x10_5 (wrap64 (x11_5 + 1)) a0_0 a0_1 a0_2 l0_3 a0_4 a0_5 l0_6) = some r := by rw [if_neg (show ¬ (false = true) by decide)] at H; exact H
                                 clear H
                                 have H := H1
                                 clear H1
                                 have H' := Aside0.mk H
                                 clear H
                                 try go_wp2
                                 have n0_ := Aside0.mk (Kd.R_drew HO_5.out)
                                 have n1_ := Aside0.mk (Kd.R_drew HO_8.out)
                                 have n2_ := Aside0.mk (blk_drew BK201.out)
                                 have n3_ := Aside0.mk (below_drew1 HB.out)
                                 clear HO_5
                                 clear HO_8
                                 clear BK201
                                 clear HB
                                 have HO_5 := n0_
                                 have HO_8 := n1_
                                 have BK201 := n2_
                                 have HB := n3_
                                 clear n0_ n1_ n2_ n3_
                                 have p209 : 0 ≤ (x11_5 : Int) := of_decide_eq_true (by first | (with_reducible assumption) | assumption)
                                 have q209 : x11_5 < (l1.length : Int) := of_decide_eq_true (by first | (with_reducible assumption) | assumption)
                                 obtain ⟨ad209, e209, hx209_0, hx209_1, hx209_2, hx209_3, hx209_4, hx209_5⟩ := at_T40 HR1.out x11_5 p209 q209
                                 have hw209_5 := hx209_5
                                 have hw209_4 := hx209_4
                                 have hw209_3 := hx209_3
                                 have hw209_2 := hx209_2
                                 have hw209_1 := hx209_1
                                 have hw209_0 := hx209_0
                                 cases e209
                                 replace hx209_0 := (HB.out.cell (World.block_lt_of_cell? w _ hx209_0)).trans hx209_0
                                 replace hx209_1 := (HB.out.cell (World.block_lt_of_cell? w _ hx209_1)).trans hx209_1
                                 replace hx209_2 := (HB.out.cell (World.block_lt_of_cell? w _ hx209_2)).trans hx209_2
                                 replace hx209_3 := (HB.out.cell (World.block_lt_of_cell? w _ hx209_3)).trans hx209_3
                                 replace hx209_4 := (HB.out.cell (World.block_lt_of_cell? w _ hx209_4)).trans hx209_4
                                 replace hx209_5 := (HB.out.cell (World.block_lt_of_cell? w _ hx209_5)).trans hx209_5
                                 replace p209 := eq_true p209
                                 replace q209 := eq_true q209
                                 have p210 : 0 ≤ (x11_5 : Int) := of_decide_eq_true (by first | (with_reducible assumption) | assumption)
                                 have q210 : x11_5 < (l1.length : Int) := of_decide_eq_true (by first | (with_reducible assumption) | assumption)
                                 obtain ⟨ad210, e210, hx210_0, hx210_1, hx210_2, hx210_3, hx210_4, hx210_5⟩ := at_T40 HR1.out x11_5 p210 q210
                                 have hw210_5 := hx210_5
                                 have hw210_4 := hx210_4
                                 have hw210_3 := hx210_3
                                 have hw210_2 := hx210_2
                                 have hw210_1 := hx210_1
                                 have hw210_0 := hx210_0
                                 obtain rfl : ad209 = ad210 := (by injection e210)
                                 replace hx210_0 := (HB.out.cell (World.block_lt_of_cell? w _ hx210_0)).trans hx210_0
                                 replace hx210_1 := (HB.out.cell (World.block_lt_of_cell? w _ hx210_1)).trans hx210_1
                                 replace hx210_2 := (HB.out.cell (World.block_lt_of_cell? w _ hx210_2)).trans hx210_2
                                 replace hx210_3 := (HB.out.cell (World.block_lt_of_cell? w _ hx210_3)).trans hx210_3
                                 replace hx210_4 := (HB.out.cell (World.block_lt_of_cell? w _ hx210_4)).trans hx210_4
                                 replace hx210_5 := (HB.out.cell (World.block_lt_of_cell? w _ hx210_5)).trans hx210_5
                                 replace p210 := eq_true p210
                                 replace q210 := eq_true q210
                                 have p211 : 0 ≤ (x7_2 : Int) := of_decide_eq_true (by first | (with_reducible assumption) | assumption)
                                 have q211 : x7_2 < (l1.length : Int) := of_decide_eq_true (by first | (with_reducible assumption) | assumption)
                                 obtain ⟨ad211, e211, hx211_0, hx211_1, hx211_2, hx211_3, hx211_4, hx211_5⟩ := at_T40 HR1.out x7_2 p211 q211
                                 have hw211_5 := hx211_5
                                 have hw211_4 := hx211_4
                                 have hw211_3 := hx211_3
                                 have hw211_2 := hx211_2
                                 have hw211_1 := hx211_1
                                 have hw211_0 := hx211_0
                                 obtain rfl : ad209 = ad211 := (by injection e211)
                                 replace hx211_0 := (HB.out.cell (World.block_lt_of_cell? w _ hx211_0)).trans hx211_0
                                 replace hx211_1 := (HB.out.cell (World.block_lt_of_cell? w _ hx211_1)).trans hx211_1
                                 replace hx211_2 := (HB.out.cell (World.block_lt_of_cell? w _ hx211_2)).trans hx211_2
                                 replace hx211_3 := (HB.out.cell (World.block_lt_of_cell? w _ hx211_3)).trans hx211_3
                                 replace hx211_4 := (HB.out.cell (World.block_lt_of_cell? w _ hx211_4)).trans hx211_4
                                 replace hx211_5 := (HB.out.cell (World.block_lt_of_cell? w _ hx211_5)).trans hx211_5
                                 replace p211 := eq_true p211
                                 replace q211 := eq_true q211
                                 refine start_ (n := 18) (S := fun w' => w'.cell? (ad209.add ((x11_5).toNat * 6)) = some (.int .i64 ((rd_T40 l1 x11_5).f0)) ∧ w'.cell? ⟨(ad209.add ((x11_5).toNat * 6)).block, (ad209.add ((x11_5).toNat * 6)).off + 1, none⟩ = some (.int .i64 ((rd_T40 l1 x11_5).f1)) ∧ w'.cell? ⟨(ad209.add ((x11_5).toNat * 6)).block, (ad209.add ((x11_5).toNat * 6)).off + 2, none⟩ = some (.int .u8 ((rd_T40 l1 x11_5).f2)) ∧ w'.cell? ⟨(ad209.add ((x11_5).toNat * 6)).block, (ad209.add ((x11_5).toNat * 6)).off + 3, none⟩ = some (.int .i64 ((rd_T40 l1 x11_5).f3)) ∧ w'.cell? ⟨(ad209.add ((x11_5).toNat * 6)).block, (ad209.add ((x11_5).toNat * 6)).off + 4, none⟩ = some (.int .i64 ((rd_T40 l1 x11_5).f4)) ∧ w'.cell? ⟨(ad209.add ((x11_5).toNat * 6)).block, (ad209.add ((x11_5).toNat * 6)).off + 5, none⟩ = some (.int .i64 ((rd_T40 l1 x11_5).f5)) ∧ w'.cell? (ad209.add ((x11_5).toNat * 6)) = some (.int .i64 ((rd_T40 l1 x11_5).f0)) ∧ w'.cell? ⟨(ad209.add ((x11_5).toNat * 6)).block, (ad209.add ((x11_5).toNat * 6)).off + 1, none⟩ = some (.int .i64 ((rd_T40 l1 x11_5).f1)) ∧ w'.cell? ⟨(ad209.add ((x11_5).toNat * 6)).block, (ad209.add ((x11_5).toNat * 6)).off + 2, none⟩ = some (.int .u8 ((rd_T40 l1 x11_5).f2)) ∧ w'.cell? ⟨(ad209.add ((x11_5).toNat * 6)).block, (ad209.add ((x11_5).toNat * 6)).off + 3, none⟩ = some (.int .i64 ((rd_T40 l1 x11_5).f3)) ∧ w'.cell? ⟨(ad209.add ((x11_5).toNat * 6)).block, (ad209.add ((x11_5).toNat * 6)).off + 4, none⟩ = some (.int .i64 ((rd_T40 l1 x11_5).f4)) ∧ w'.cell? ⟨(ad209.add ((x11_5).toNat * 6)).block, (ad209.add ((x11_5).toNat * 6)).off + 5, none⟩ = some (.int .i64 ((rd_T40 l1 x11_5).f5)) ∧ w'.cell? (ad209.add ((x7_2).toNat * 6)) = some (.int .i64 ((rd_T40 l1 x7_2).f0)) ∧ w'.cell? ⟨(ad209.add ((x7_2).toNat * 6)).block, (ad209.add ((x7_2).toNat * 6)).off + 1, none⟩ = some (.int .i64 ((rd_T40 l1 x7_2).f1)) ∧ w'.cell? ⟨(ad209.add ((x7_2).toNat * 6)).block, (ad209.add ((x7_2).toNat * 6)).off + 2, none⟩ = some (.int .u8 ((rd_T40 l1 x7_2).f2)) ∧ w'.cell? ⟨(ad209.add ((x7_2).toNat * 6)).block, (ad209.add ((x7_2).toNat * 6)).off + 3, none⟩ = some (.int .i64 ((rd_T40 l1 x7_2).f3)) ∧ w'.cell? ⟨(ad209.add ((x7_2).toNat * 6)).block, (ad209.add ((x7_2).toNat * 6)).off + 4, none⟩ = some (.int .i64 ((rd_T40 l1 x7_2).f4)) ∧ w'.cell? ⟨(ad209.add ((x7_2).toNat * 6)).block, (ad209.add ((x7_2).toNat * 6)).off + 5, none⟩ = some (.int .i64 ((rd_T40 l1 x7_2).f5))) (ds := []) (bl 18 0) (by kernel_rfl) rfl rfl ⟨((HB.out.cell (World.block_lt_of_cell? w _ hw209_0)).trans hw209_0), ((HB.out.cell (World.block_lt_of_cell? w _ hw209_1)).trans hw209_1), ((HB.out.cell (World.block_lt_of_cell? w _ hw209_2)).trans hw209_2), ((HB.out.cell (World.block_lt_of_cell? w _ hw209_3)).trans hw209_3), ((HB.out.cell (World.block_lt_of_cell? w _ hw209_4)).trans hw209_4), ((HB.out.cell (World.block_lt_of_cell? w _ hw209_5)).trans hw209_5), ((HB.out.cell (World.block_lt_of_cell? w _ hw210_0)).trans hw210_0), ((HB.out.cell (World.block_lt_of_cell? w _ hw210_1)).trans hw210_1), ((HB.out.cell (World.block_lt_of_cell? w _ hw210_2)).trans hw210_2), ((HB.out.cell (World.block_lt_of_cell? w _ hw210_3)).trans hw210_3), ((HB.out.cell (World.block_lt_of_cell? w _ hw210_4)).trans hw210_4), ((HB.out.cell (World.block_lt_of_cell? w _ hw210_5)).trans hw210_5), ((HB.out.cell (World.block_lt_of_cell? w _ hw211_0)).trans hw211_0), ((HB.out.cell (World.block_lt_of_cell? w _ hw211_1)).trans hw211_1), ((HB.out.cell (World.block_lt_of_cell? w _ hw211_2)).trans hw211_2), ((HB.out.cell (World.block_lt_of_cell? w _ hw211_3)).trans hw211_3), ((HB.out.cell (World.block_lt_of_cell? w _ hw211_4)).trans hw211_4), ((HB.out.cell (World.block_lt_of_cell? w _ hw211_5)).trans hw211_5)⟩ (fun hHeld => ?_); refine with_tabW interlockref08_Find.tab19 interlockref08_Find.bits19 (fun HT_ HW_ => ?_)
                                 generalize wr.drew = w28 at HO_5 HO_8 BK201 HB hx209_0 hx209_1 hx209_2 hx209_3 hx209_4 hx209_5 hx210_0 hx210_1 hx210_2 hx210_3 hx210_4 hx210_5 hx211_0 hx211_1 hx211_2 hx211_3 hx211_4 hx211_5 hHeld ⊢
                                 refine pure_ (i := 0) (N := some 70) (v := ?_) (a' := ?_) (bl 18 1) rfl rfl (any_of HT_.out (by kernel_rfl)) (fun _ _ _ h => h) (Or.inl ⟨by rfl, ?_⟩) ?_ ?_
                                 rotate_left
                                 · intro w'
                                   go_simp
                                   with_reducible rfl
                                 rotate_left
                                 · simp only [Act.put, List.setIfInBounds_toArray, List.set_cons_zero, List.set_cons_succ, i64_w, i32_w]
                                   rfl
                                 refine pure_ (i := 1) (N := some 71) (v := ?_) (a' := ?_) (bl 18 3) rfl rfl (any_of HT_.out (by kernel_rfl)) (fun _ _ _ h => h) (Or.inl ⟨by rfl, ?_⟩) ?_ ?_
                                 rotate_left
                                 · intro w'
                                   go_simp
                                   with_reducible rfl
                                 rotate_left
                                 · simp only [Act.put, List.setIfInBounds_toArray, List.set_cons_zero, List.set_cons_succ, i64_w, i32_w]
                                   rfl
                                 refine pure_ (i := 2) (N := some 72) (v := ?_) (a' := ?_) (bl 18 7) rfl rfl (any_of HT_.out (by kernel_rfl)) (fun _ _ _ h => h) (Or.inl ⟨by rfl, ?_⟩) ?_ ?_
                                 rotate_left
                                 · intro w'
                                   go_simp
                                   with_reducible rfl
                                 rotate_left
                                 · simp only [Act.put, List.setIfInBounds_toArray, List.set_cons_zero, List.set_cons_succ, i64_w, i32_w]
                                   rfl
                                 refine pure_ (i := 3) (N := some 73) (v := ?_) (a' := ?_) (bl 18 15) rfl rfl (any_of HT_.out (by kernel_rfl)) (fun _ _ _ h => h) (Or.inl ⟨by rfl, ?_⟩) ?_ ?_
                                 rotate_left
                                 · intro w'
                                   go_simp
                                   with_reducible rfl
                                 rotate_left
                                 · simp only [Act.put, List.setIfInBounds_toArray, List.set_cons_zero, List.set_cons_succ, i64_w, i32_w]
                                   rfl
                                 refine pure_ (i := 5) (N := some 75) (v := ?_) (a' := ?_) (bl 18 47) rfl rfl (any_of HT_.out (by kernel_rfl)) (fun _ _ _ h => h) (Or.inl ⟨by rfl, ?_⟩) ?_ ?_
                                 rotate_left
                                 · intro w'
                                   go_simp
                                   with_reducible rfl
                                 rotate_left
                                 · simp only [Act.put, List.setIfInBounds_toArray, List.set_cons_zero, List.set_cons_succ, i64_w, i32_w]
                                   rfl
                                 refine take_ (i := 4) (N := some 74) (v := ?_) (a' := ?_) (bl 18 63) rfl rfl (take_ofW HT_.out HW_.out (by kernel_rfl)) (fun _ _ _ h => h) (Or.inl ⟨by rfl, ?_⟩) hHeld ?_ ?_
                                 rotate_left
                                 · rintro w' ⟨s0, s1, s2, s3, s4, s5, s6, s7, s8, s9, s10, s11, s12, s13, s14, s15, s16, s17⟩
                                   go_simp
                                   with_reducible rfl
                                 rotate_left
                                 · simp only [Act.put, List.setIfInBounds_toArray, List.set_cons_zero, List.set_cons_succ, i64_w, i32_w]
                                   rfl
                                 refine pure_ (i := 6) (N := some 76) (v := ?_) (a' := ?_) (bl 18 127) rfl rfl (any_of HT_.out (by kernel_rfl)) (fun _ _ _ h => h) (Or.inl ⟨by rfl, ?_⟩) ?_ ?_
                                 rotate_left
                                 · intro w'
                                   go_simp
                                   with_reducible rfl
                                 rotate_left
                                 · simp only [Act.put, List.setIfInBounds_toArray, List.set_cons_zero, List.set_cons_succ, i64_w, i32_w]
                                   rfl
                                 refine pure_ (i := 7) (N := some 77) (v := ?_) (a' := ?_) (bl 18 255) rfl rfl (any_of HT_.out (by kernel_rfl)) (fun _ _ _ h => h) (Or.inl ⟨by rfl, ?_⟩) ?_ ?_
                                 rotate_left
                                 · intro w'
                                   go_simp
                                   with_reducible rfl
                                 rotate_left
                                 · simp only [Act.put, List.setIfInBounds_toArray, List.set_cons_zero, List.set_cons_succ, i64_w, i32_w]
                                   rfl
                                 refine pure_ (i := 8) (N := some 78) (v := ?_) (a' := ?_) (bl 18 511) rfl rfl (any_of HT_.out (by kernel_rfl)) (fun _ _ _ h => h) (Or.inl ⟨by rfl, ?_⟩) ?_ ?_
                                 rotate_left
                                 · intro w'
                                   go_simp
                                   with_reducible rfl
                                 rotate_left
                                 · simp only [Act.put, List.setIfInBounds_toArray, List.set_cons_zero, List.set_cons_succ, i64_w, i32_w]
                                   rfl
                                 refine pure_ (i := 9) (N := some 79) (v := ?_) (a' := ?_) (bl 18 1023) rfl rfl (any_of HT_.out (by kernel_rfl)) (fun _ _ _ h => h) (Or.inl ⟨by rfl, ?_⟩) ?_ ?_
                                 rotate_left
                                 · intro w'
                                   go_simp
                                   with_reducible rfl
                                 rotate_left
                                 · simp only [Act.put, List.setIfInBounds_toArray, List.set_cons_zero, List.set_cons_succ, i64_w, i32_w]
                                   rfl
                                 refine pure_ (i := 10) (N := some 80) (v := ?_) (a' := ?_) (bl 18 2047) rfl rfl (any_of HT_.out (by kernel_rfl)) (fun _ _ _ h => h) (Or.inl ⟨by rfl, ?_⟩) ?_ ?_
                                 rotate_left
                                 · intro w'
                                   go_simp
                                   with_reducible rfl
                                 rotate_left
                                 · simp only [Act.put, List.setIfInBounds_toArray, List.set_cons_zero, List.set_cons_succ, i64_w, i32_w]
                                   rfl
                                 refine pure_ (i := 12) (N := some 82) (v := ?_) (a' := ?_) (bl 18 6143) rfl rfl (any_of HT_.out (by kernel_rfl)) (fun _ _ _ h => h) (Or.inl ⟨by rfl, ?_⟩) ?_ ?_
                                 rotate_left
                                 · intro w'
                                   go_simp
                                   with_reducible rfl
                                 rotate_left
                                 · simp only [Act.put, List.setIfInBounds_toArray, List.set_cons_zero, List.set_cons_succ, i64_w, i32_w]
                                   rfl
                                 refine pure_ (i := 13) (N := some 83) (v := ?_) (a' := ?_) (bl 18 14335) rfl rfl (any_of HT_.out (by kernel_rfl)) (fun _ _ _ h => h) (Or.inl ⟨by rfl, ?_⟩) ?_ ?_
                                 rotate_left
                                 · intro w'
                                   go_simp
                                   with_reducible rfl
                                 rotate_left
                                 · simp only [Act.put, List.setIfInBounds_toArray, List.set_cons_zero, List.set_cons_succ, i64_w, i32_w]
                                   rfl
                                 refine pure_ (i := 14) (N := some 84) (v := ?_) (a' := ?_) (bl 18 30719) rfl rfl (any_of HT_.out (by kernel_rfl)) (fun _ _ _ h => h) (Or.inl ⟨by rfl, ?_⟩) ?_ ?_
                                 rotate_left
                                 · intro w'
                                   go_simp
                                   with_reducible rfl
                                 rotate_left
                                 · simp only [Act.put, List.setIfInBounds_toArray, List.set_cons_zero, List.set_cons_succ, i64_w, i32_w]
                                   rfl
                                 refine take_ (i := 11) (N := some 81) (v := ?_) (a' := ?_) (bl 18 32767) rfl rfl (take_ofW HT_.out HW_.out (by kernel_rfl)) (fun _ _ _ h => h) (Or.inl ⟨by rfl, ?_⟩) hHeld ?_ ?_
                                 rotate_left
                                 · rintro w' ⟨s0, s1, s2, s3, s4, s5, s6, s7, s8, s9, s10, s11, s12, s13, s14, s15, s16, s17⟩
                                   go_simp
                                   with_reducible rfl
                                 rotate_left
                                 · simp only [Act.put, List.setIfInBounds_toArray, List.set_cons_zero, List.set_cons_succ, i64_w, i32_w]
                                   rfl
                                 refine take_ (i := 15) (N := some 85) (v := ?_) (a' := ?_) (bl 18 65535) rfl rfl (take_ofW HT_.out HW_.out (by kernel_rfl)) (fun _ _ _ h => h) (Or.inl ⟨by rfl, ?_⟩) hHeld ?_ ?_
                                 rotate_left
                                 · rintro w' ⟨s0, s1, s2, s3, s4, s5, s6, s7, s8, s9, s10, s11, s12, s13, s14, s15, s16, s17⟩
                                   go_simp
                                   with_reducible rfl
                                 rotate_left
                                 · simp only [Act.put, List.setIfInBounds_toArray, List.set_cons_zero, List.set_cons_succ, i64_w, i32_w]
                                   rfl
                                 refine one_ (i := 16) (N := some 86) (bl 18 131071) rfl rfl (one_of HT_.out (by kernel_rfl)) (by decide) (fun K hK => ?_)
                                 refine goes_ Try.func22 (by kernel_rfl) rfl #[.agg #[.int .i64 ((rd_T40 l1 x11_5).f0), .int .i64 ((rd_T40 l1 x11_5).f1), .int .u8 ((rd_T40 l1 x11_5).f2), .int .i64 ((rd_T40 l1 x11_5).f3), .int .i64 ((rd_T40 l1 x11_5).f4), .int .i64 ((rd_T40 l1 x11_5).f5)], .agg #[.int .i64 ((rd_T40 l1 x7_2).f0), .int .i64 ((rd_T40 l1 x7_2).f1), .int .u8 ((rd_T40 l1 x7_2).f2), .int .i64 ((rd_T40 l1 x7_2).f3), .int .i64 ((rd_T40 l1 x7_2).f4), .int .i64 ((rd_T40 l1 x7_2).f5)]] (by rfl) rfl rfl (by (try simp only [List.map_toArray, List.map_cons, List.map_nil]); first | done | rfl | (simp only [List.length_drop, List.length_take]; rfl)) ?_
                                 with_reducible refine (interlockref08_Conflict.calls ((rd_T40 l1 x11_5).f0) ((rd_T40 l1 x11_5).f1) ((rd_T40 l1 x11_5).f2) ((rd_T40 l1 x11_5).f3) ((rd_T40 l1 x11_5).f4) ((rd_T40 l1 x11_5).f5) ((rd_T40 l1 x7_2).f0) ((rd_T40 l1 x7_2).f1) ((rd_T40 l1 x7_2).f2) ((rd_T40 l1 x7_2).f3) ((rd_T40 l1 x7_2).f4) ((rd_T40 l1 x7_2).f5) false _ A24.out).mono ?_
                                 rintro e w29 ⟨rfl, hb⟩
                                 refine ⟨_, rfl, ?_⟩
                                 have n0_ := Aside0.mk (Kd.R_below (by (with_reducible repeat (first | apply Kd.R_alloc | apply Kd.R_drewN | apply Kd.R_drew)); exact HO_5.out) hb)
                                 have n1_ := Aside0.mk (Kd.R_below (by (with_reducible repeat (first | apply Kd.R_alloc | apply Kd.R_drewN | apply Kd.R_drew)); exact HO_8.out) hb)
                                 have n2_ := Aside0.mk (blk_below (g := gb201) (o := .cells #[.int .i64 a0_0, .int .i64 a0_1, .int .i64 a0_2, .slice A0_3 l0_3.length c0_3, .int .i64 a0_4, .int .i64 a0_5, .slice A0_6 l0_6.length c0_6] 29 (0, 0)) (by (with_reducible repeat (first | refine blk_drewN ?_ _ | refine blk_drew ?_ | refine blk_alloc ?_ _)); exact BK201.out) hb)
                                 have n3_ := Aside0.mk (below_step (by repeat (first | (with_reducible first | exact HB.out | apply below_alloc | apply pw_below_drewN | apply below_drew1 | refine below_set ?_ GE201.out) | exact HB.out)) hb)
                                 clear HO_5
                                 clear HO_8
                                 clear BK201
                                 clear HB
                                 have HO_5 := n0_
                                 have HO_8 := n1_
                                 have BK201 := n2_
                                 have HB := n3_
                                 clear n0_ n1_ n2_ n3_
                                 (try clear hb)
                                 (try clear hb2)
                                 (try clear hk)
                                 (try clear hi)
                                 refine hK.out _ _ ⟨((HB.out.cell (World.block_lt_of_cell? w _ hw209_0)).trans hw209_0), ((HB.out.cell (World.block_lt_of_cell? w _ hw209_1)).trans hw209_1), ((HB.out.cell (World.block_lt_of_cell? w _ hw209_2)).trans hw209_2), ((HB.out.cell (World.block_lt_of_cell? w _ hw209_3)).trans hw209_3), ((HB.out.cell (World.block_lt_of_cell? w _ hw209_4)).trans hw209_4), ((HB.out.cell (World.block_lt_of_cell? w _ hw209_5)).trans hw209_5), ((HB.out.cell (World.block_lt_of_cell? w _ hw210_0)).trans hw210_0), ((HB.out.cell (World.block_lt_of_cell? w _ hw210_1)).trans hw210_1), ((HB.out.cell (World.block_lt_of_cell? w _ hw210_2)).trans hw210_2), ((HB.out.cell (World.block_lt_of_cell? w _ hw210_3)).trans hw210_3), ((HB.out.cell (World.block_lt_of_cell? w _ hw210_4)).trans hw210_4), ((HB.out.cell (World.block_lt_of_cell? w _ hw210_5)).trans hw210_5), ((HB.out.cell (World.block_lt_of_cell? w _ hw211_0)).trans hw211_0), ((HB.out.cell (World.block_lt_of_cell? w _ hw211_1)).trans hw211_1), ((HB.out.cell (World.block_lt_of_cell? w _ hw211_2)).trans hw211_2), ((HB.out.cell (World.block_lt_of_cell? w _ hw211_3)).trans hw211_3), ((HB.out.cell (World.block_lt_of_cell? w _ hw211_4)).trans hw211_4), ((HB.out.cell (World.block_lt_of_cell? w _ hw211_5)).trans hw211_5)⟩ (fun hHeld => ?_)
                                 clear hK K
                                 refine norm_ (a' := ?_) ?_ ?_
                                 rotate_left
                                 · show Act.put _ (some 86) _ = _
                                   simp only [Act.put, List.setIfInBounds_toArray, List.set_cons_zero, List.set_cons_succ, i64_w, i32_w]
                                   rfl
                                 refine pure_ (i := 17) (N := some 87) (v := ?_) (a' := ?_) (bl 18 262143) rfl rfl (any_of HT_.out (by kernel_rfl)) (fun _ _ _ h => h) (Or.inl ⟨by rfl, ?_⟩) ?_ ?_
                                 rotate_left
                                 · intro w'
                                   go_simp
                                   with_reducible rfl
                                 rotate_left
                                 · simp only [Act.put, List.setIfInBounds_toArray, List.set_cons_zero, List.set_cons_succ, i64_w, i32_w]
                                   rfl
                                 refine done_ (done_of HT_.out (by kernel_rfl)) ?_
                                 try go_wp2
                                 go_roundg k5
                                 case measure => have := HK1.out; have := HK2.out; have := HJ9.out; have := HK4.out; have := HK5.out; omega
                                 case rel => exact ⟨(x10_5), (wrap64 (x11_5 + 1)), (by first | rfl | (simp; done) | (simp [*]; done)), (by first | rfl | (simp; done) | (simp [*]; done)), H', ⟨by have := HK1.out; have := HK2.out; have := HJ9.out; have := HK4.out; have := HK5.out; omega⟩, ⟨by (with_reducible repeat (first | apply Kd.R_alloc | apply Kd.R_drewN | apply Kd.R_drew)); exact HO_5.out⟩, ⟨by (with_reducible repeat (first | apply Kd.R_alloc | apply Kd.R_drewN | apply Kd.R_drew)); exact HO_8.out⟩, ⟨by (with_reducible repeat (first | refine blk_drewN ?_ _ | refine blk_drew ?_ | refine blk_alloc ?_ _)); exact BK201.out⟩, ⟨by repeat (first | (with_reducible first | exact HB.out | apply below_alloc | apply pw_below_drewN | apply below_drew1 | refine below_set ?_ GE201.out) | exact HB.out)⟩⟩
                             · rw [if_neg c23] at H
                               exact absurd H (by simp)
                           · rw [if_neg c22] at H
                             exact absurd H (by simp)
                         · rw [if_neg c21] at H
                           have c21b0 : (((rd_T40 l1 x11_5).f0) == x9_4) = false := beq_eq_false_iff_ne.mpr c21
                           have c21b1 : (((rd_T40 l1 x11_5).f0) != x9_4) = true := bne_iff_ne.mpr c21
                           have H' := Aside0.mk H
                           clear H
                           try go_wp2
                           have n0_ := Aside0.mk (Kd.R_drew HO_5.out)
                           have n1_ := Aside0.mk (Kd.R_drew HO_8.out)
                           have n2_ := Aside0.mk (blk_drew BK201.out)
                           have n3_ := Aside0.mk (below_drew1 HB.out)
                           clear HO_5
                           clear HO_8
                           clear BK201
                           clear HB
                           have HO_5 := n0_
                           have HO_8 := n1_
                           have BK201 := n2_
                           have HB := n3_
                           clear n0_ n1_ n2_ n3_
                           have p209 : 0 ≤ (x11_5 : Int) := of_decide_eq_true (by first | (with_reducible assumption) | assumption)
                           have q209 : x11_5 < (l1.length : Int) := of_decide_eq_true (by first | (with_reducible assumption) | assumption)
                           obtain ⟨ad209, e209, hx209_0, hx209_1, hx209_2, hx209_3, hx209_4, hx209_5⟩ := at_T40 HR1.out x11_5 p209 q209
                           have hw209_5 := hx209_5
                           have hw209_4 := hx209_4
                           have hw209_3 := hx209_3
                           have hw209_2 := hx209_2
                           have hw209_1 := hx209_1
                           have hw209_0 := hx209_0
                           cases e209
                           replace hx209_0 := (HB.out.cell (World.block_lt_of_cell? w _ hx209_0)).trans hx209_0
                           replace hx209_1 := (HB.out.cell (World.block_lt_of_cell? w _ hx209_1)).trans hx209_1
                           replace hx209_2 := (HB.out.cell (World.block_lt_of_cell? w _ hx209_2)).trans hx209_2
                           replace hx209_3 := (HB.out.cell (World.block_lt_of_cell? w _ hx209_3)).trans hx209_3
                           replace hx209_4 := (HB.out.cell (World.block_lt_of_cell? w _ hx209_4)).trans hx209_4
                           replace hx209_5 := (HB.out.cell (World.block_lt_of_cell? w _ hx209_5)).trans hx209_5
                           replace p209 := eq_true p209
                           replace q209 := eq_true q209
                           refine start_ (n := 18) (S := fun w' => w'.cell? (ad209.add ((x11_5).toNat * 6)) = some (.int .i64 ((rd_T40 l1 x11_5).f0)) ∧ w'.cell? ⟨(ad209.add ((x11_5).toNat * 6)).block, (ad209.add ((x11_5).toNat * 6)).off + 1, none⟩ = some (.int .i64 ((rd_T40 l1 x11_5).f1)) ∧ w'.cell? ⟨(ad209.add ((x11_5).toNat * 6)).block, (ad209.add ((x11_5).toNat * 6)).off + 2, none⟩ = some (.int .u8 ((rd_T40 l1 x11_5).f2)) ∧ w'.cell? ⟨(ad209.add ((x11_5).toNat * 6)).block, (ad209.add ((x11_5).toNat * 6)).off + 3, none⟩ = some (.int .i64 ((rd_T40 l1 x11_5).f3)) ∧ w'.cell? ⟨(ad209.add ((x11_5).toNat * 6)).block, (ad209.add ((x11_5).toNat * 6)).off + 4, none⟩ = some (.int .i64 ((rd_T40 l1 x11_5).f4)) ∧ w'.cell? ⟨(ad209.add ((x11_5).toNat * 6)).block, (ad209.add ((x11_5).toNat * 6)).off + 5, none⟩ = some (.int .i64 ((rd_T40 l1 x11_5).f5))) (ds := []) (bl 18 0) (by kernel_rfl) rfl rfl ⟨((HB.out.cell (World.block_lt_of_cell? w _ hw209_0)).trans hw209_0), ((HB.out.cell (World.block_lt_of_cell? w _ hw209_1)).trans hw209_1), ((HB.out.cell (World.block_lt_of_cell? w _ hw209_2)).trans hw209_2), ((HB.out.cell (World.block_lt_of_cell? w _ hw209_3)).trans hw209_3), ((HB.out.cell (World.block_lt_of_cell? w _ hw209_4)).trans hw209_4), ((HB.out.cell (World.block_lt_of_cell? w _ hw209_5)).trans hw209_5)⟩ (fun hHeld => ?_); refine with_tabW interlockref08_Find.tab19 interlockref08_Find.bits19 (fun HT_ HW_ => ?_)
                           generalize wr.drew = w30 at HO_5 HO_8 BK201 HB hx209_0 hx209_1 hx209_2 hx209_3 hx209_4 hx209_5 hHeld ⊢
                           refine pure_ (i := 0) (N := some 70) (v := ?_) (a' := ?_) (bl 18 1) rfl rfl (any_of HT_.out (by kernel_rfl)) (fun _ _ _ h => h) (Or.inl ⟨by rfl, ?_⟩) ?_ ?_
                           rotate_left
                           · intro w'
                             go_simp
                             with_reducible rfl
                           rotate_left
                           · simp only [Act.put, List.setIfInBounds_toArray, List.set_cons_zero, List.set_cons_succ, i64_w, i32_w]
                             rfl
                           refine pure_ (i := 1) (N := some 71) (v := ?_) (a' := ?_) (bl 18 3) rfl rfl (any_of HT_.out (by kernel_rfl)) (fun _ _ _ h => h) (Or.inl ⟨by rfl, ?_⟩) ?_ ?_
                           rotate_left
                           · intro w'
                             go_simp
                             with_reducible rfl
                           rotate_left
                           · simp only [Act.put, List.setIfInBounds_toArray, List.set_cons_zero, List.set_cons_succ, i64_w, i32_w]
                             rfl
                           refine pure_ (i := 2) (N := some 72) (v := ?_) (a' := ?_) (bl 18 7) rfl rfl (any_of HT_.out (by kernel_rfl)) (fun _ _ _ h => h) (Or.inl ⟨by rfl, ?_⟩) ?_ ?_
                           rotate_left
                           · intro w'
                             go_simp
                             with_reducible rfl
                           rotate_left
                           · simp only [Act.put, List.setIfInBounds_toArray, List.set_cons_zero, List.set_cons_succ, i64_w, i32_w]
                             rfl
                           refine pure_ (i := 3) (N := some 73) (v := ?_) (a' := ?_) (bl 18 15) rfl rfl (any_of HT_.out (by kernel_rfl)) (fun _ _ _ h => h) (Or.inl ⟨by rfl, ?_⟩) ?_ ?_
                           rotate_left
                           · intro w'
                             go_simp
                             with_reducible rfl
                           rotate_left
                           · simp only [Act.put, List.setIfInBounds_toArray, List.set_cons_zero, List.set_cons_succ, i64_w, i32_w]
                             rfl
                           refine pure_ (i := 5) (N := some 75) (v := ?_) (a' := ?_) (bl 18 47) rfl rfl (any_of HT_.out (by kernel_rfl)) (fun _ _ _ h => h) (Or.inl ⟨by rfl, ?_⟩) ?_ ?_
                           rotate_left
                           · intro w'
                             go_simp
                             with_reducible rfl
                           rotate_left
                           · simp only [Act.put, List.setIfInBounds_toArray, List.set_cons_zero, List.set_cons_succ, i64_w, i32_w]
                             rfl
                           refine take_ (i := 4) (N := some 74) (v := ?_) (a' := ?_) (bl 18 63) rfl rfl (take_ofW HT_.out HW_.out (by kernel_rfl)) (fun _ _ _ h => h) (Or.inl ⟨by rfl, ?_⟩) hHeld ?_ ?_
                           rotate_left
                           · rintro w' ⟨s0, s1, s2, s3, s4, s5⟩
                             go_simp
                             with_reducible rfl
                           rotate_left
                           · simp only [Act.put, List.setIfInBounds_toArray, List.set_cons_zero, List.set_cons_succ, i64_w, i32_w]
                             rfl
                           refine pure_ (i := 6) (N := some 76) (v := ?_) (a' := ?_) (bl 18 127) rfl rfl (any_of HT_.out (by kernel_rfl)) (fun _ _ _ h => h) (Or.inl ⟨by rfl, ?_⟩) ?_ ?_
                           rotate_left
                           · intro w'
                             go_simp
                             with_reducible rfl
                           rotate_left
                           · simp only [Act.put, List.setIfInBounds_toArray, List.set_cons_zero, List.set_cons_succ, i64_w, i32_w]
                             rfl
                           refine pure_ (i := 7) (N := some 77) (v := ?_) (a' := ?_) (bl 18 255) rfl rfl (any_of HT_.out (by kernel_rfl)) (fun _ _ _ h => h) (Or.inl ⟨by rfl, ?_⟩) ?_ ?_
                           rotate_left
                           · intro w'
                             go_simp
                             with_reducible rfl
                           rotate_left
                           · simp only [Act.put, List.setIfInBounds_toArray, List.set_cons_zero, List.set_cons_succ, i64_w, i32_w]
                             rfl
                           refine pure_ (i := 8) (N := some 78) (v := undef) (a' := ?_) (bl 18 511) rfl rfl (any_of HT_.out (by kernel_rfl)) (fun _ _ _ h => h) (Or.inr ⟨by rfl, rfl⟩) ?_ ?_
                           rotate_left
                           · simp only [Act.put, List.setIfInBounds_toArray, List.set_cons_zero, List.set_cons_succ, i64_w, i32_w]
                             rfl
                           refine pure_ (i := 9) (N := some 79) (v := undef) (a' := ?_) (bl 18 1023) rfl rfl (any_of HT_.out (by kernel_rfl)) (fun _ _ _ h => h) (Or.inr ⟨by rfl, rfl⟩) ?_ ?_
                           rotate_left
                           · simp only [Act.put, List.setIfInBounds_toArray, List.set_cons_zero, List.set_cons_succ, i64_w, i32_w]
                             rfl
                           refine pure_ (i := 10) (N := some 80) (v := undef) (a' := ?_) (bl 18 2047) rfl rfl (any_of HT_.out (by kernel_rfl)) (fun _ _ _ h => h) (Or.inr ⟨by rfl, rfl⟩) ?_ ?_
                           rotate_left
                           · simp only [Act.put, List.setIfInBounds_toArray, List.set_cons_zero, List.set_cons_succ, i64_w, i32_w]
                             rfl
                           refine pure_ (i := 11) (N := some 81) (v := undef) (a' := ?_) (bl 18 4095) rfl rfl (any_of HT_.out (by kernel_rfl)) (fun _ _ _ h => h) (Or.inr ⟨by rfl, rfl⟩) ?_ ?_
                           rotate_left
                           · simp only [Act.put, List.setIfInBounds_toArray, List.set_cons_zero, List.set_cons_succ, i64_w, i32_w]
                             rfl
                           refine pure_ (i := 12) (N := some 82) (v := undef) (a' := ?_) (bl 18 8191) rfl rfl (any_of HT_.out (by kernel_rfl)) (fun _ _ _ h => h) (Or.inr ⟨by rfl, rfl⟩) ?_ ?_
                           rotate_left
                           · simp only [Act.put, List.setIfInBounds_toArray, List.set_cons_zero, List.set_cons_succ, i64_w, i32_w]
                             rfl
                           refine pure_ (i := 13) (N := some 83) (v := undef) (a' := ?_) (bl 18 16383) rfl rfl (any_of HT_.out (by kernel_rfl)) (fun _ _ _ h => h) (Or.inr ⟨by rfl, rfl⟩) ?_ ?_
                           rotate_left
                           · simp only [Act.put, List.setIfInBounds_toArray, List.set_cons_zero, List.set_cons_succ, i64_w, i32_w]
                             rfl
                           refine pure_ (i := 14) (N := some 84) (v := undef) (a' := ?_) (bl 18 32767) rfl rfl (any_of HT_.out (by kernel_rfl)) (fun _ _ _ h => h) (Or.inr ⟨by rfl, rfl⟩) ?_ ?_
                           rotate_left
                           · simp only [Act.put, List.setIfInBounds_toArray, List.set_cons_zero, List.set_cons_succ, i64_w, i32_w]
                             rfl
                           refine pure_ (i := 15) (N := some 85) (v := undef) (a' := ?_) (bl 18 65535) rfl rfl (any_of HT_.out (by kernel_rfl)) (fun _ _ _ h => h) (Or.inr ⟨by rfl, rfl⟩) ?_ ?_
                           rotate_left
                           · simp only [Act.put, List.setIfInBounds_toArray, List.set_cons_zero, List.set_cons_succ, i64_w, i32_w]
                             rfl
                           refine pure_ (i := 16) (N := some 86) (v := undef) (a' := ?_) (bl 18 131071) rfl rfl (any_of HT_.out (by kernel_rfl)) (fun _ _ _ h => h) (Or.inr ⟨by rfl, rfl⟩) ?_ ?_
                           rotate_left
                           · simp only [Act.put, List.setIfInBounds_toArray, List.set_cons_zero, List.set_cons_succ, i64_w, i32_w]
                             rfl
                           refine pure_ (i := 17) (N := some 87) (v := ?_) (a' := ?_) (bl 18 262143) rfl rfl (any_of HT_.out (by kernel_rfl)) (fun _ _ _ h => h) (Or.inl ⟨by rfl, ?_⟩) ?_ ?_
                           rotate_left
                           · intro w'
                             go_simp
                             with_reducible rfl
                           rotate_left
                           · simp only [Act.put, List.setIfInBounds_toArray, List.set_cons_zero, List.set_cons_succ, i64_w, i32_w]
                             rfl
                           refine done_ (done_of HT_.out (by kernel_rfl)) ?_
                           try go_wp2
                           go_roundg k5
                           case measure => have := HK1.out; have := HK2.out; have := HJ9.out; have := HK4.out; have := HK5.out; omega
                           case rel => exact ⟨(x10_5), (wrap64 (x11_5 + 1)), (by first | rfl | (simp; done) | (simp [*]; done)), (by first | rfl | (simp; done) | (simp [*]; done)), H', ⟨by have := HK1.out; have := HK2.out; have := HJ9.out; have := HK4.out; have := HK5.out; omega⟩, ⟨by (with_reducible repeat (first | apply Kd.R_alloc | apply Kd.R_drewN | apply Kd.R_drew)); exact HO_5.out⟩, ⟨by (with_reducible repeat (first | apply Kd.R_alloc | apply Kd.R_drewN | apply Kd.R_drew)); exact HO_8.out⟩, ⟨by (with_reducible repeat (first | refine blk_drewN ?_ _ | refine blk_drew ?_ | refine blk_alloc ?_ _)); exact BK201.out⟩, ⟨by repeat (first | (with_reducible first | exact HB.out | apply below_alloc | apply pw_below_drewN | apply below_drew1 | refine below_set ?_ GE201.out) | exact HB.out)⟩⟩
                       · rw [if_neg c20] at H
                         exact absurd H (by simp)
                     · rw [if_neg c19] at H
                       exact absurd H (by simp)
                   · rw [if_neg c18] at H
                     have c18b0 : decide (x11_5 < x7_2) = false := decide_eq_false c18
                     clear c18
                     by_cases c31 : x10_5 ≥ 0
                     · rw [if_pos c31] at H
                       have c31b0 : decide (0 ≤ x10_5) = true := decide_eq_true c31
                       clear c31
                       by_cases c32 : 0 ≤ x10_5
                       · rw [if_pos c32] at H
                         have c32b0 : decide (0 ≤ x10_5) = true := decide_eq_true c32
                         clear c32
                         by_cases c33 : x10_5 < (t206.length : Int)
                         · rw [if_pos c33] at H
                           have c33b0 : decide (x10_5 < (t206.length : Int)) = true := decide_eq_true c33
                           clear c33
                           by_cases c34 : (rd t206 x10_5) = 0
                           · rw [if_pos c34] at H
                             have c34b0 : ((rd t206 x10_5) == 0) = true := beq_iff_eq.mpr c34
                             have c34b1 : ((rd t206 x10_5) != 0) = false := bne_eq_false_iff_eq.mpr c34
                             clear c34
                             by_cases c35 : x5_4.length < 8796093022208
                             · rw [if_pos c35] at H
                               have LMc35 := Aside0.mk c35
                               clear c35
                               obtain ⟨y214, hy214⟩ : ∃ y_ : List (S55), y_ = (x5_4 ++ [(⟨x10_5, x7_2⟩ : S55)]) := ⟨_, rfl⟩
                               replace H : (interlockref08_Find.l2 k5 l1 y214 x7_2 t206 (wrap64 (x9_4 + 1)) a0_0 a0_1 a0_2 l0_3 a0_4 a0_5 l0_6) = some r := by first | (rw [hy214]; with_reducible exact H) | (have H2_ := (Option.bind_some _ _).symm.trans H; rw [hy214]; with_reducible exact H2_) | (have H2_ := (Option.bind_some _ _).symm.trans H; with_reducible exact H2_) | with_reducible exact H | (rw [hy214]; exact H) | exact H
                               have Ny214 := Aside0.mk hy214
                               clear hy214
                               have H' := Aside0.mk H
                               clear H
                               obtain ⟨Ao36, co36, eo36⟩ := Kd.R_slice HO_8.out
                               subst eo36
                               have p213 : 0 ≤ (x10_5 : Int) := of_decide_eq_true (by first | (with_reducible assumption) | assumption)
                               have q213 : x10_5 < (t206.length : Int) := of_decide_eq_true (by first | (with_reducible assumption) | assumption)
                               obtain ⟨ad213, e213, hx213_0⟩ := Kd.at_int (Kd.R_reads' HO_8.out).2.2 x10_5 p213 q213
                               cases e213
                               replace p213 := eq_true p213
                               replace q213 := eq_true q213
                               go_wp2_with (first | ((with_reducible refine gate_builtin (b := .append) (xs := #[.tmp 98, .tmp 102]) rfl ?_); at_builtin; refine Kd.R_append k55 (w0 := w) w.heap.size rfl (.tmp 98) (.tmp 102) 46 55 (.agg #[(.int .i64 0), (.int .i64 0)]) 16 rfl Try.underlying46 info55 rfl (by decide) (by omega) u5 x5_4 (⟨x10_5, x7_2⟩ : S55) [.int .i64 x10_5, .int .i64 x7_2] (fun _ => True) (fun _ => False) rfl rfl ?aP (fun _ hk => hk.elim) ?aF ?aO ?aB ?aS ?aL ?_; (case aP => exact k55_mkM _ _ _ (⟨x10_5, x7_2⟩ : S55)); (case aB => exact (by repeat (first | (with_reducible first | exact HB.out | apply below_alloc | apply pw_below_drewN | apply below_drew1 | refine below_set ?_ GE201.out) | exact HB.out))); (case aF => exact (fun _ _ => trivial)); (case aO => exact (by (with_reducible repeat (first | apply Kd.R_alloc | apply Kd.R_drewN | apply Kd.R_drew)); exact HO_5.out)); (case aS => exact (below_size (by repeat (first | (with_reducible first | exact HB.out | apply below_alloc | apply pw_below_drewN | apply below_drew1 | refine below_set ?_ GE201.out) | exact HB.out)))); (case aL => have := LMc35.out; omega); intro v215 w37 ho hb hg hat; rw [← Ny214.out] at ho; have n0_ := Aside0.mk (Kd.R_over' (by (with_reducible repeat (first | apply Kd.R_alloc | apply Kd.R_drewN | apply Kd.R_drew)); exact HO_8.out) (Kd.R_typed (by (with_reducible repeat (first | apply Kd.R_alloc | apply Kd.R_drewN | apply Kd.R_drew)); exact HO_5.out)) (by decide) hg); have n1_ := Aside0.mk (blk_grown (g := gb201) (o := .cells #[.int .i64 a0_0, .int .i64 a0_1, .int .i64 a0_2, .slice A0_3 l0_3.length c0_3, .int .i64 a0_4, .int .i64 a0_5, .slice A0_6 l0_6.length c0_6] 29 (0, 0)) (by (with_reducible repeat (first | refine blk_drewN ?_ _ | refine blk_drew ?_ | refine blk_alloc ?_ _)); exact BK201.out) hg (Kd.R_ne HO_5.out BK201.out (by decide))); have n2_ := Aside0.mk (hb); have n3_ := Aside0.mk (ho); clear HO_8; clear BK201; clear HB; clear HO_5; have HO_8 := n0_; have BK201 := n1_; have HB := n2_; have HO216 := n3_; clear n0_ n1_ n2_ n3_; clear ho hb hg hat))
                               go_roundg k5
                               case measure => have := HK1.out; have := HK2.out; have := HJ9.out; have := HK4.out; have := HK5.out; omega
                               case rel => exact ⟨(y214), (wrap64 (x9_4 + 1)), (by first | rfl | (simp; done) | (simp [*]; done)), H', ⟨by have := HK1.out; have := HK2.out; have := HJ9.out; have := HK4.out; have := HK5.out; omega⟩, ⟨by (with_reducible repeat (first | apply Kd.R_alloc | apply Kd.R_drewN | apply Kd.R_drew)); exact HO216.out⟩, ⟨by (with_reducible repeat (first | apply Kd.R_alloc | apply Kd.R_drewN | apply Kd.R_drew)); exact HO_8.out⟩, ⟨by (with_reducible repeat (first | refine blk_drewN ?_ _ | refine blk_drew ?_ | refine blk_alloc ?_ _)); exact BK201.out⟩, ⟨by repeat (first | (with_reducible first | exact HB.out | apply below_alloc | apply pw_below_drewN | apply below_drew1 | refine below_set ?_ GE201.out) | exact HB.out)⟩⟩
                             · rw [if_neg c35] at H
                               exact absurd H (by simp)
                           · rw [if_neg c34] at H
                             have c34b0 : ((rd t206 x10_5) == 0) = false := beq_eq_false_iff_ne.mpr c34
                             have c34b1 : ((rd t206 x10_5) != 0) = true := bne_iff_ne.mpr c34
                             have H' := Aside0.mk H
                             clear H
                             obtain ⟨Ao38, co38, eo38⟩ := Kd.R_slice HO_8.out
                             subst eo38
                             have p213 : 0 ≤ (x10_5 : Int) := of_decide_eq_true (by first | (with_reducible assumption) | assumption)
                             have q213 : x10_5 < (t206.length : Int) := of_decide_eq_true (by first | (with_reducible assumption) | assumption)
                             obtain ⟨ad213, e213, hx213_0⟩ := Kd.at_int (Kd.R_reads' HO_8.out).2.2 x10_5 p213 q213
                             cases e213
                             replace p213 := eq_true p213
                             replace q213 := eq_true q213
                             go_wp2
                             go_roundg k5
                             case measure => have := HK1.out; have := HK2.out; have := HJ9.out; have := HK4.out; have := HK5.out; omega
                             case rel => exact ⟨(x5_4), (wrap64 (x9_4 + 1)), (by first | rfl | (simp; done) | (simp [*]; done)), H', ⟨by have := HK1.out; have := HK2.out; have := HJ9.out; have := HK4.out; have := HK5.out; omega⟩, ⟨by (with_reducible repeat (first | apply Kd.R_alloc | apply Kd.R_drewN | apply Kd.R_drew)); exact HO_5.out⟩, ⟨by (with_reducible repeat (first | apply Kd.R_alloc | apply Kd.R_drewN | apply Kd.R_drew)); exact HO_8.out⟩, ⟨by (with_reducible repeat (first | refine blk_drewN ?_ _ | refine blk_drew ?_ | refine blk_alloc ?_ _)); exact BK201.out⟩, ⟨by repeat (first | (with_reducible first | exact HB.out | apply below_alloc | apply pw_below_drewN | apply below_drew1 | refine below_set ?_ GE201.out) | exact HB.out)⟩⟩
                         · rw [if_neg c33] at H
                           exact absurd H (by simp)
                       · rw [if_neg c32] at H
                         exact absurd H (by simp)
                     · rw [if_neg c31] at H
                       have c31b0 : decide (0 ≤ x10_5) = false := decide_eq_false c31
                       clear c31
                       have H' := Aside0.mk H
                       clear H
                       go_wp2
                       go_roundg k5
                       case measure => have := HK1.out; have := HK2.out; have := HJ9.out; have := HK4.out; have := HK5.out; omega
                       case rel => exact ⟨(x5_4), (wrap64 (x9_4 + 1)), (by first | rfl | (simp; done) | (simp [*]; done)), H', ⟨by have := HK1.out; have := HK2.out; have := HJ9.out; have := HK4.out; have := HK5.out; omega⟩, ⟨by (with_reducible repeat (first | apply Kd.R_alloc | apply Kd.R_drewN | apply Kd.R_drew)); exact HO_5.out⟩, ⟨by (with_reducible repeat (first | apply Kd.R_alloc | apply Kd.R_drewN | apply Kd.R_drew)); exact HO_8.out⟩, ⟨by (with_reducible repeat (first | refine blk_drewN ?_ _ | refine blk_drew ?_ | refine blk_alloc ?_ _)); exact BK201.out⟩, ⟨by repeat (first | (with_reducible first | exact HB.out | apply below_alloc | apply pw_below_drewN | apply below_drew1 | refine below_set ?_ GE201.out) | exact HB.out)⟩⟩
               · rw [if_neg c17] at H
                 have c17b0 : decide (x9_4 < 6) = false := decide_eq_false c17
                 clear c17
                 have H' := Aside0.mk H
                 clear H
                 go_wp2
                 go_roundg k4
                 case measure => have := HK1.out; have := HK2.out; have := HJ9.out; have := HK4.out; omega
                 case rel => exact ⟨(x5_4), (wrap64 (x7_2 + 1)), (by first | rfl | (simp; done) | (simp [*]; done)), H', ⟨by have := HK1.out; have := HK2.out; have := HJ9.out; have := HK4.out; omega⟩, ⟨by (with_reducible repeat (first | apply Kd.R_alloc | apply Kd.R_drewN | apply Kd.R_drew)); exact HO_5.out⟩, ⟨by (with_reducible repeat (first | refine blk_drewN ?_ _ | refine blk_drew ?_ | refine blk_alloc ?_ _)); exact BK201.out⟩, ⟨by repeat (first | (with_reducible first | exact HB.out | apply below_alloc | apply pw_below_drewN | apply below_drew1 | refine below_set ?_ GE201.out) | exact HB.out)⟩⟩
       · rw [if_neg c9] at H
         have c9b0 : decide (x7_2 < (l1.length : Int)) = false := decide_eq_false c9
         clear c9
         obtain rfl := Option.some.inj H
         go_wp2
         go_ret
         exact ⟨_, by first | rfl | (simp [errW_none, errW_some] <;> rfl) | (simp [*, errW_none, errW_some] <;> rfl), by (with_reducible repeat (first | apply Kd.R_alloc | apply Kd.R_drewN | apply Kd.R_drew)); exact HO_5.out, by repeat (first | (with_reducible first | exact HB.out | apply below_alloc | apply pw_below_drewN | apply below_drew1 | refine below_set ?_ GE201.out) | exact HB.out)⟩
end Go.Proofs.Ytblnimopffhocaa.P
