/- The walks of the functions that a law reaches, or the law's row: printed by a program of this session (wip/xprint.py) that drives the kit's printer with contracts of its own. -/
import Derived.Test.YtblnimopffhocaaPx0
import Derived.Test.YtblnimopffhocaaRHand9
import Derived.Test.YtblnimopffhocaaPx1
namespace Go.Proofs.Ytblnimopffhocaa.P
open Go.RowKit Go.Proofs.YtblnimopffhocaaW.PrintWords Go.Proofs.YtblnimopffhocaaW.PrintLast Go.Proofs.YtblnimopffhocaaW.PrintMore Go.Proofs.YtblnimopffhocaaX
attribute [local go_sem] max2_int min2_int max_two min_two max_three min_three max_four min_four   -- for this text's walks alone
set_option linter.unusedVariables false
set_option linter.unusedSimpArgs false

attribute [local go_sem high] eqA55
-- NOT PRINTED: function 37 (api_Event_37)

-- NOT PRINTED: function 29 (api_Event_29)

/-! ### clock_At: function 41 -/
def clock_At.f (l0 : List Int) (a1 : Int) : Option (Int) := if a1 < 0 then (some 0) else (if a1 ≥ (l0.length : Int) then (some 0) else (if 0 ≤ a1 then (if a1 < (l0.length : Int) then (some (rd l0 a1)) else (none)) else (none)))
set_option maxHeartbeats 8000000 in
set_option maxRecDepth 100000 in
theorem clock_At.calls (A0 : Option Addr) (c0 : Nat) (l0 : List Int) (a1 : Int) (r : Int) (w : World) (hr0 : Kd.C (Kd.int .i64) w A0 l0.length l0) (hc0 : l0.length ≤ c0) (h : clock_At.f l0 a1 = some r) :
    Calls Try.prog 41 #[.slice A0 l0.length c0, .int .i64 a1] w fun e w' => e = .returned (.int .i64 r) ∧ Drawn0 w w' := by
  have HR0 := Aside0.mk hr0
  have HC0 := Aside0.mk hc0
  clear hr0 hc0
  have H : (if a1 < 0 then (some 0) else (if a1 ≥ (l0.length : Int) then (some 0) else (if 0 ≤ a1 then (if a1 < (l0.length : Int) then (some (rd l0 a1)) else (none)) else (none)))) = some r := h
  clear h
  by_cases c3 : a1 < 0
  · rw [if_pos c3] at H
    have c3b0 : decide (a1 < 0) = true := decide_eq_true c3
    clear c3
    obtain rfl := Option.some.inj H
    go_enter Try.func41, Try.ntmps41
    go_wp2
    go_ret
    exact ⟨by first | rfl | (simp; done) | (simp [*]; done), by repeat (first | exact Drawn0.refl _ | apply Drawn0.step)⟩
  · rw [if_neg c3] at H
    have c3b0 : decide (a1 < 0) = false := decide_eq_false c3
    clear c3
    by_cases c4 : a1 ≥ (l0.length : Int)
    · rw [if_pos c4] at H
      have c4b0 : decide ((l0.length : Int) ≤ a1) = true := decide_eq_true c4
      clear c4
      obtain rfl := Option.some.inj H
      go_enter Try.func41, Try.ntmps41
      go_wp2
      go_ret
      exact ⟨by first | rfl | (simp; done) | (simp [*]; done), by repeat (first | exact Drawn0.refl _ | apply Drawn0.step)⟩
    · rw [if_neg c4] at H
      have c4b0 : decide ((l0.length : Int) ≤ a1) = false := decide_eq_false c4
      clear c4
      by_cases c5 : 0 ≤ a1
      · rw [if_pos c5] at H
        have c5b0 : decide (0 ≤ a1) = true := decide_eq_true c5
        clear c5
        by_cases c6 : a1 < (l0.length : Int)
        · rw [if_pos c6] at H
          have c6b0 : decide (a1 < (l0.length : Int)) = true := decide_eq_true c6
          clear c6
          obtain rfl := Option.some.inj H
          have p101 : 0 ≤ (a1 : Int) := of_decide_eq_true (by first | (with_reducible assumption) | assumption)
          have q101 : a1 < (l0.length : Int) := of_decide_eq_true (by first | (with_reducible assumption) | assumption)
          obtain ⟨ad101, e101, hx101_0⟩ := Kd.at_int HR0.out a1 p101 q101
          cases e101
          replace p101 := eq_true p101
          replace q101 := eq_true q101
          go_enter Try.func41, Try.ntmps41
          go_wp2
          go_ret
          exact ⟨by first | rfl | (simp; done) | (simp [*]; done), by repeat (first | exact Drawn0.refl _ | apply Drawn0.step)⟩
        · rw [if_neg c6] at H
          exact absurd H (by simp)
      · rw [if_neg c5] at H
        exact absurd H (by simp)

-- NOT PRINTED: function 56 (clock_by)

-- NOT PRINTED: function 58 (clock_Join)

-- NOT PRINTED: function 52 (race_detector_learn)

-- NOT PRINTED: function 53 (race_detector_next)

-- NOT PRINTED: function 54 (race_detector_room)

-- NOT PRINTED: function 38 (race_detector_hear)

-- NOT PRINTED: function 55 (slices_Clone_int_int)

-- NOT PRINTED: function 39 (clock_Tick)

-- NOT PRINTED: function 40 (race_detector_latest)

-- NOT PRINTED: function 59 (race_detector_tell)

-- NOT PRINTED: function 42 (race_detector_say)

-- NOT PRINTED: function 30 (race_detector_event)

/-! ### race_Find: function 17 -/
def race_Find.f (a0_0 : Int) (a0_1 : Int) (a0_2 : Int) (l0_3 : List Int) (a0_4 : Int) (a0_5 : Int) (l0_6 : List (List (S25))) (l1 : List S40) : Option (List S55) := some (findL l0_3 l1)
theorem race_Find.calls (a0_0 : Int) (a0_1 : Int) (a0_2 : Int) (A0_3 : Option Addr) (c0_3 : Nat) (l0_3 : List Int) (a0_4 : Int) (a0_5 : Int) (A0_6 : Option Addr) (c0_6 : Nat) (l0_6 : List (List (S25))) (A1 : Option Addr) (c1 : Nat) (l1 : List S40) (r : List S55) (w : World) (hr0_3 : Kd.C (Kd.int .i64) w A0_3 l0_3.length l0_3) (hc0_3 : l0_3.length ≤ c0_3) (hr0_6 : Kd.C (Kd.slice 25 k25) w A0_6 l0_6.length l0_6) (hc0_6 : l0_6.length ≤ c0_6) (hr1 : Kd.C k40 w A1 l1.length l1) (hc1 : l1.length ≤ c1) (h : race_Find.f a0_0 a0_1 a0_2 l0_3 a0_4 a0_5 l0_6 l1 = some r) :
    Calls Try.prog 17 #[.agg #[.int .i64 a0_0, .int .i64 a0_1, .int .i64 a0_2, .slice A0_3 l0_3.length c0_3, .int .i64 a0_4, .int .i64 a0_5, .slice A0_6 l0_6.length c0_6], .slice A1 l1.length c1] w fun e w' => ∃ v0_ : Value, e = .returned (v0_) ∧ Kd.R k55 55 w' w.heap.size (fun _ => True) v0_ r ∧ Below w.heap.size w w' := by
  unfold race_Find.f at h
  injection h with h
  subst h
  exact Find_any w a0_0 a0_1 a0_2 a0_4 a0_5 A0_3 c0_3 l0_3 A0_6 l0_6.length c0_6 A1 c1 l1 hr0_3 hc0_3 hr1 hc1

/-! ### race_Racy: function 13 -/
def race_Racy.f (a0_0 : Int) (a0_1 : Int) (a0_2 : Int) (l0_3 : List Int) (a0_4 : Int) (a0_5 : Int) (l0_6 : List (List (S25))) (l1 : List (S40)) : Option (Bool) := (race_Find.f a0_0 a0_1 a0_2 l0_3 a0_4 a0_5 l0_6 l1).bind fun t103 => (some (decide ((t103.length : Int) > 0)))
set_option maxHeartbeats 8000000 in
set_option maxRecDepth 100000 in
theorem race_Racy.calls (a0_0 : Int) (a0_1 : Int) (a0_2 : Int) (A0_3 : Option Addr) (c0_3 : Nat) (l0_3 : List Int) (a0_4 : Int) (a0_5 : Int) (A0_6 : Option Addr) (c0_6 : Nat) (l0_6 : List (List (S25))) (A1 : Option Addr) (c1 : Nat) (l1 : List (S40)) (r : Bool) (w : World) (hr0_3 : Kd.C (Kd.int .i64) w A0_3 l0_3.length l0_3) (hc0_3 : l0_3.length ≤ c0_3) (hr0_6 : Kd.C (Kd.slice 25 k25) w A0_6 l0_6.length l0_6) (hc0_6 : l0_6.length ≤ c0_6) (hr1 : Kd.C k40 w A1 l1.length l1) (hc1 : l1.length ≤ c1) (h : race_Racy.f a0_0 a0_1 a0_2 l0_3 a0_4 a0_5 l0_6 l1 = some r) :
    Calls Try.prog 13 #[.agg #[.int .i64 a0_0, .int .i64 a0_1, .int .i64 a0_2, .slice A0_3 l0_3.length c0_3, .int .i64 a0_4, .int .i64 a0_5, .slice A0_6 l0_6.length c0_6], .slice A1 l1.length c1] w fun e w' => e = .returned (.bool r) ∧ Below w.heap.size w w' := by
  have hu29 := Try.underlying29
  have HR0_3 := Aside0.mk hr0_3
  have HC0_3 := Aside0.mk hc0_3
  clear hr0_3 hc0_3
  have HR0_6 := Aside0.mk hr0_6
  have HC0_6 := Aside0.mk hc0_6
  clear hr0_6 hc0_6
  have HR1 := Aside0.mk hr1
  have HC1 := Aside0.mk hc1
  clear hr1 hc1
  have HB := Aside0.mk (Below.refl w.heap.size w)
  have H : ((race_Find.f a0_0 a0_1 a0_2 l0_3 a0_4 a0_5 l0_6 l1).bind fun t103 => (some (decide ((t103.length : Int) > 0)))) = some r := h
  clear h
  replace H := Option.bind_eq_some_iff.mp H
  obtain ⟨t103, A30, H⟩ := H
  replace H : (some (decide ((t103.length : Int) > 0))) = some r := H
  have A3 := Aside0.mk A30
  clear A30
  obtain rfl := Option.some.inj H
  go_enter Try.func13, Try.ntmps13
  go_wp2_with (first | ((with_reducible refine gate_dst (N := 2) rfl ?_); refine box_event ?hg (N := 2) ?hd (cs := #[.int .i64 a0_0, .int .i64 a0_1, .int .i64 a0_2, .slice A0_3 l0_3.length c0_3, .int .i64 a0_4, .int .i64 a0_5, .slice A0_6 l0_6.length c0_6]) (t := 29) ?hr ?_; (case hd => rfl); (case hg => rfl); (case hr => first | (go_simp; done) | (go_simp; rfl)); intro gb102 hg w4 hbox hb; have n0_ := Aside0.mk (below_step (by repeat (first | (with_reducible first | exact HB.out | apply below_alloc | apply pw_below_drewN | apply below_drew1) | exact HB.out)) hb); have n1_ := Aside0.mk (hbox); have n2_ := Aside0.mk ((by rw [hg]; exact (below_size (by repeat (first | (with_reducible first | exact HB.out | apply below_alloc | apply pw_below_drewN | apply below_drew1) | exact HB.out))) : w.heap.size ≤ gb102)); have n3_ := Aside0.mk ((by rw [hg]; exact (below_size (by repeat (first | (with_reducible first | exact HB.out | apply below_alloc | apply pw_below_drewN | apply below_drew1) | exact HB.out))) : w.heap.size ≤ gb102)); clear HB; have HB := n0_; have BK102 := n1_; have GW102 := n2_; have GE102 := n3_; clear n0_ n1_ n2_ n3_; clear hb hbox hg; have hcz5_0 : w4.cell? ⟨gb102, 0, none⟩ = some (.int .i64 a0_0) := (blk_cell BK102.out 0).trans rfl; have hcz5_1 : w4.cell? ⟨gb102, 1, none⟩ = some (.int .i64 a0_1) := (blk_cell BK102.out 1).trans rfl; have hcz5_2 : w4.cell? ⟨gb102, 2, none⟩ = some (.int .i64 a0_2) := (blk_cell BK102.out 2).trans rfl; have hcz5_3 : w4.cell? ⟨gb102, 3, none⟩ = some (.slice A0_3 l0_3.length c0_3) := (blk_cell BK102.out 3).trans rfl; have hcz5_4 : w4.cell? ⟨gb102, 4, none⟩ = some (.int .i64 a0_4) := (blk_cell BK102.out 4).trans rfl; have hcz5_5 : w4.cell? ⟨gb102, 5, none⟩ = some (.int .i64 a0_5) := (blk_cell BK102.out 5).trans rfl; have hcz5_6 : w4.cell? ⟨gb102, 6, none⟩ = some (.slice A0_6 l0_6.length c0_6) := (blk_cell BK102.out 6).trans rfl; have hfz5_0 := blk_frozen BK102.out 0; have hfz5_1 := blk_frozen BK102.out 1; have hfz5_2 := blk_frozen BK102.out 2; have hfz5_3 := blk_frozen BK102.out 3; have hfz5_4 := blk_frozen BK102.out 4; have hfz5_5 := blk_frozen BK102.out 5; have hfz5_6 := blk_frozen BK102.out 6) | ((with_reducible refine gate_callee (f := 17) rfl ?_); refine goesL_ (some 7) rfl rfl Try.func17 (by kernel_rfl) rfl #[.agg #[.int .i64 a0_0, .int .i64 a0_1, .int .i64 a0_2, .slice A0_3 l0_3.length c0_3, .int .i64 a0_4, .int .i64 a0_5, .slice A0_6 l0_6.length c0_6], .slice A1 l1.length c1] rfl (by (try simp only [List.map_toArray, List.map_cons, List.map_nil]); first | done | rfl | (simp only [List.length_drop, List.length_take]; rfl)) ?_; (with_reducible refine (race_Find.calls a0_0 a0_1 a0_2 _ _ l0_3 a0_4 a0_5 _ _ l0_6 _ _ l1 t103 _ ?side1 ?side2 ?side3 ?side4 ?side5 ?side6 A3.out).mono ?_); (case side1 => repeat (first | exact (Kd.C_below HR0_3.out HB.out) | (with_reducible refine Kd.C_alloc ?_ _) | (with_reducible refine Kd.C_drewN ?_ _) | (with_reducible refine Kd.C_drew ?_))); (case side2 => exact HC0_3.out); (case side3 => repeat (first | exact (Kd.C_below HR0_6.out HB.out) | (with_reducible refine Kd.C_alloc ?_ _) | (with_reducible refine Kd.C_drewN ?_ _) | (with_reducible refine Kd.C_drew ?_))); (case side4 => exact HC0_6.out); (case side5 => repeat (first | exact (Kd.C_below HR1.out HB.out) | (with_reducible refine Kd.C_alloc ?_ _) | (with_reducible refine Kd.C_drewN ?_ _) | (with_reducible refine Kd.C_drew ?_))); (case side6 => exact HC1.out); rintro e w6 ⟨v104, rfl, ho0, hb⟩; refine ⟨_, rfl, ?_⟩; have n0_ := Aside0.mk (Kd.R_lower ho0 (below_size (by repeat (first | (with_reducible first | exact HB.out | apply below_alloc | apply pw_below_drewN | apply below_drew1 | refine below_set ?_ GE102.out) | exact HB.out)))); have n1_ := Aside0.mk (blk_below (g := gb102) (o := .cells #[.int .i64 a0_0, .int .i64 a0_1, .int .i64 a0_2, .slice A0_3 l0_3.length c0_3, .int .i64 a0_4, .int .i64 a0_5, .slice A0_6 l0_6.length c0_6] 29 (0, 0)) (by (with_reducible repeat (first | refine blk_drewN ?_ _ | refine blk_drew ?_ | refine blk_alloc ?_ _)); exact BK102.out) hb); have n2_ := Aside0.mk (below_step (by repeat (first | (with_reducible first | exact HB.out | apply below_alloc | apply pw_below_drewN | apply below_drew1 | refine below_set ?_ GE102.out) | exact HB.out)) hb); clear BK102; clear HB; have HO105 := n0_; have BK102 := n1_; have HB := n2_; clear n0_ n1_ n2_; (try clear hb); (try clear hb2); (try clear hk); (try clear hi); (try clear ho0); obtain ⟨Ao7, co7, eo7⟩ := Kd.R_slice HO105.out; subst eo7))
  go_ret
  exact ⟨by first | rfl | (simp [errW_none, errW_some] <;> rfl) | (simp [*, errW_none, errW_some] <;> rfl), by repeat (first | (with_reducible first | exact HB.out | apply below_alloc | apply pw_below_drewN | apply below_drew1 | refine below_set ?_ GE102.out) | exact HB.out)⟩

/-! ### interlocklaw08_known: function 12 -/
def interlocklaw08_known.f  : Option (Bool) := (some (([(⟨0, 0, 8, 0, 0, 0⟩ : S40), (⟨1, 0, 7, 0, 0, 0⟩ : S40)] : List (S40)) : List (S40))).bind fun y106 => ((race_Find.f 0 0 0 ([] : List Int) 0 0 ([] : List (List (S25))) y106).bind fun t109 => (if (t109.length : Int) = 1 then (if 0 < (t109.length : Int) then (if (((rd_T55 t109 0).f0) == 0 && (((rd_T55 t109 0).f1) == 1)) = true then ((race_Racy.f 0 0 0 ([] : List Int) 0 0 ([] : List (List (S25))) y106).bind fun t116 => (if t116 = true then ((race_Racy.f 0 0 0 ([] : List Int) 0 0 ([] : List (List (S25))) (([(⟨0, 0, 8, 0, 0, 0⟩ : S40), (⟨0, 0, 14, 0, 0, 0⟩ : S40), (⟨1, 0, 13, 0, 0, 0⟩ : S40), (⟨1, 0, 7, 0, 0, 0⟩ : S40)] : List (S40)))).bind fun t117 => (some (!t117))) else (some false))) else (some false)) else (none)) else (some false)))
set_option maxHeartbeats 8000000 in
set_option maxRecDepth 100000 in
theorem interlocklaw08_known.calls  (r : Bool) (w : World) (h : interlocklaw08_known.f  = some r) :
    Calls Try.prog 12 #[] w fun e w' => e = .returned (.bool r) ∧ Below w.heap.size w w' := by
  have hu40 := Try.underlying40
  have hu29 := Try.underlying29
  have hu55 := Try.underlying55
  have HB := Aside0.mk (Below.refl w.heap.size w)
  have H : ((some (([(⟨0, 0, 8, 0, 0, 0⟩ : S40), (⟨1, 0, 7, 0, 0, 0⟩ : S40)] : List (S40)) : List (S40))).bind fun y106 => ((race_Find.f 0 0 0 ([] : List Int) 0 0 ([] : List (List (S25))) y106).bind fun t109 => (if (t109.length : Int) = 1 then (if 0 < (t109.length : Int) then (if (((rd_T55 t109 0).f0) == 0 && (((rd_T55 t109 0).f1) == 1)) = true then ((race_Racy.f 0 0 0 ([] : List Int) 0 0 ([] : List (List (S25))) y106).bind fun t116 => (if t116 = true then ((race_Racy.f 0 0 0 ([] : List Int) 0 0 ([] : List (List (S25))) (([(⟨0, 0, 8, 0, 0, 0⟩ : S40), (⟨0, 0, 14, 0, 0, 0⟩ : S40), (⟨1, 0, 13, 0, 0, 0⟩ : S40), (⟨1, 0, 7, 0, 0, 0⟩ : S40)] : List (S40)))).bind fun t117 => (some (!t117))) else (some false))) else (some false)) else (none)) else (some false)))) = some r := h
  clear h
  obtain ⟨y106, hy106⟩ : ∃ y_ : List (S40), y_ = (([(⟨0, 0, 8, 0, 0, 0⟩ : S40), (⟨1, 0, 7, 0, 0, 0⟩ : S40)] : List (S40))) := ⟨_, rfl⟩
  replace H : ((race_Find.f 0 0 0 ([] : List Int) 0 0 ([] : List (List (S25))) y106).bind fun t109 => (if (t109.length : Int) = 1 then (if 0 < (t109.length : Int) then (if (((rd_T55 t109 0).f0) == 0 && (((rd_T55 t109 0).f1) == 1)) = true then ((race_Racy.f 0 0 0 ([] : List Int) 0 0 ([] : List (List (S25))) y106).bind fun t116 => (if t116 = true then ((race_Racy.f 0 0 0 ([] : List Int) 0 0 ([] : List (List (S25))) (([(⟨0, 0, 8, 0, 0, 0⟩ : S40), (⟨0, 0, 14, 0, 0, 0⟩ : S40), (⟨1, 0, 13, 0, 0, 0⟩ : S40), (⟨1, 0, 7, 0, 0, 0⟩ : S40)] : List (S40)))).bind fun t117 => (some (!t117))) else (some false))) else (some false)) else (none)) else (some false))) = some r := by first | (rw [hy106]; with_reducible exact H) | (have H2_ := (Option.bind_some _ _).symm.trans H; rw [hy106]; with_reducible exact H2_) | (have H2_ := (Option.bind_some _ _).symm.trans H; with_reducible exact H2_) | with_reducible exact H | (rw [hy106]; exact H) | exact H
  have Ny106 := Aside0.mk hy106
  clear hy106
  replace H := Option.bind_eq_some_iff.mp H
  obtain ⟨t109, A10, H⟩ := H
  replace H : (if (t109.length : Int) = 1 then (if 0 < (t109.length : Int) then (if (((rd_T55 t109 0).f0) == 0 && (((rd_T55 t109 0).f1) == 1)) = true then ((race_Racy.f 0 0 0 ([] : List Int) 0 0 ([] : List (List (S25))) y106).bind fun t116 => (if t116 = true then ((race_Racy.f 0 0 0 ([] : List Int) 0 0 ([] : List (List (S25))) (([(⟨0, 0, 8, 0, 0, 0⟩ : S40), (⟨0, 0, 14, 0, 0, 0⟩ : S40), (⟨1, 0, 13, 0, 0, 0⟩ : S40), (⟨1, 0, 7, 0, 0, 0⟩ : S40)] : List (S40)))).bind fun t117 => (some (!t117))) else (some false))) else (some false)) else (none)) else (some false)) = some r := H
  have A1 := Aside0.mk A10
  clear A10
  obtain ⟨y112, hy112⟩ : ∃ y_ : List (S40), y_ = (([(⟨0, 0, 8, 0, 0, 0⟩ : S40), (⟨0, 0, 14, 0, 0, 0⟩ : S40), (⟨1, 0, 13, 0, 0, 0⟩ : S40), (⟨1, 0, 7, 0, 0, 0⟩ : S40)] : List (S40))) := ⟨_, rfl⟩
  replace H : (if (t109.length : Int) = 1 then (if 0 < (t109.length : Int) then (if (((rd_T55 t109 0).f0) == 0 && (((rd_T55 t109 0).f1) == 1)) = true then ((race_Racy.f 0 0 0 ([] : List Int) 0 0 ([] : List (List (S25))) y106).bind fun t116 => (if t116 = true then ((race_Racy.f 0 0 0 ([] : List Int) 0 0 ([] : List (List (S25))) y112).bind fun t117 => (some (!t117))) else (some false))) else (some false)) else (none)) else (some false)) = some r := by first | (rw [hy112]; with_reducible exact H) | (have H2_ := (Option.bind_some _ _).symm.trans H; rw [hy112]; with_reducible exact H2_) | (have H2_ := (Option.bind_some _ _).symm.trans H; with_reducible exact H2_) | with_reducible exact H | (rw [hy112]; exact H) | exact H
  have Ny112 := Aside0.mk hy112
  clear hy112
  by_cases c2 : (t109.length : Int) = 1
  · rw [if_pos c2] at H
    have c2b0 : ((t109.length : Int) == 1) = true := beq_iff_eq.mpr c2
    have c2b1 : ((t109.length : Int) != 1) = false := bne_eq_false_iff_eq.mpr c2
    clear c2
    by_cases c3 : 0 < (t109.length : Int)
    · rw [if_pos c3] at H
      have c3b0 : decide (0 < (t109.length : Int)) = true := decide_eq_true c3
      have c3b1 : decide (0 < t109.length) = true := decide_eq_true (by omega)
      clear c3
      by_cases c4 : (((rd_T55 t109 0).f0) == 0 && (((rd_T55 t109 0).f1) == 1)) = true
      · rw [if_pos c4] at H
        have c4b0 : (((rd_T55 t109 0).f0) == 0 && (((rd_T55 t109 0).f1) == 1)) = true := c4
        (try (have c4b1 : decide (((rd_T55 t109 0).f0) = 0 && (((rd_T55 t109 0).f1) == 1)) = true := by simpa using c4))
        (try (have c4b2 : (((rd_T55 t109 0).f0) == 0 && (((rd_T55 t109 0).f1) == 1)) = true := by simpa using c4))
        clear c4
        replace H := Option.bind_eq_some_iff.mp H
        obtain ⟨t116, A50, H⟩ := H
        replace H : (if t116 = true then ((race_Racy.f 0 0 0 ([] : List Int) 0 0 ([] : List (List (S25))) y112).bind fun t117 => (some (!t117))) else (some false)) = some r := H
        have A5 := Aside0.mk A50
        clear A50
        by_cases c6 : t116 = true
        · subst c6
          have H1 : ((race_Racy.f 0 0 0 ([] : List Int) 0 0 ([] : List (List (S25))) y112).bind fun t117 => (some (!t117))) = some r := by rw [if_pos rfl] at H; exact H
          clear H
          have H := H1
          clear H1
          replace H := Option.bind_eq_some_iff.mp H
          obtain ⟨t117, A70, H⟩ := H
          replace H : (some (!t117)) = some r := H
          have A7 := Aside0.mk A70
          clear A70
          obtain rfl := Option.some.inj H
          go_enter Try.func12, Try.ntmps12
          go_wp2_with (first | ((with_reducible refine gate_dst (N := 6) rfl ?_); refine Kd.R_lit k40 _ 40 ?hg (N := 6) ?hd (xs := ([(⟨0, 0, 8, 0, 0, 0⟩ : S40), (⟨1, 0, 7, 0, 0, 0⟩ : S40)] : List (S40))) (inner := [.int .i64 0, .int .i64 0, .int .u8 8, .int .i64 0, .int .i64 0, .int .i64 0, .int .i64 1, .int .i64 0, .int .u8 7, .int .i64 0, .int .i64 0, .int .i64 0]) (ok := fun _ => True) (okp := fun _ => True) ?hr ?hp (fun _ hk => hk) trivial (Below.refl _ _) (Nat.le_refl _) (by simp) ?_; (case hd => rfl); (case hg => rfl); (case hr => first | (go_simp; done) | (go_simp; rfl)); (case hp => exact (Reps.c6 (show Kd.M k40 _ _ _ (⟨0, 0, 8, 0, 0, 0⟩ : S40) [.int .i64 0, .int .i64 0, .int .u8 8, .int .i64 0, .int .i64 0, .int .i64 0] from (k40_mkM _ _ _ (⟨0, 0, 8, 0, 0, 0⟩ : S40) )) (Reps.c6 (show Kd.M k40 _ _ _ (⟨1, 0, 7, 0, 0, 0⟩ : S40) [.int .i64 1, .int .i64 0, .int .u8 7, .int .i64 0, .int .i64 0, .int .i64 0] from (k40_mkM _ _ _ (⟨1, 0, 7, 0, 0, 0⟩ : S40) )) (Reps.none _ _)))); intro v107 w8 ho9 hb hg_ hnew_; clear hg_ hnew_; (first | rw [← Ny106.out] at ho9 | (simp only [Int.reduceToNat] at ho9; rw [← Ny106.out] at ho9)); have n0_ := Aside0.mk (Kd.R_lower ho9 (below_size (by repeat (first | (with_reducible first | exact HB.out | apply below_alloc | apply pw_below_drewN | apply below_drew1) | exact HB.out)))); have n1_ := Aside0.mk (below_step (by repeat (first | (with_reducible first | exact HB.out | apply below_alloc | apply pw_below_drewN | apply below_drew1) | exact HB.out)) hb); clear HB; have HO108 := n0_; have HB := n1_; clear n0_ n1_; clear hb ho9; obtain ⟨Ao10, co10, eo10⟩ := Kd.R_slice HO108.out; subst eo10) | ((with_reducible refine gate_callee (f := 17) rfl ?_); refine goesL_ (some 9) rfl rfl Try.func17 (by kernel_rfl) rfl #[.agg #[.int .i64 0, .int .i64 0, .int .i64 0, .slice none 0 0, .int .i64 0, .int .i64 0, .slice none 0 0], .slice Ao10 y106.length co10] rfl (by (try simp only [List.map_toArray, List.map_cons, List.map_nil]); first | done | rfl | (simp only [List.length_drop, List.length_take]; rfl)) ?_; (refine (race_Find.calls 0 0 0 _ _ ([] : List Int) 0 0 _ _ ([] : List (List (S25))) _ _ y106 t109 _ ?side1 ?side2 ?side3 ?side4 ?side5 ?side6 A1.out).mono ?_); (case side1 => exact Kd.C_nil _ _); (case side2 => exact Nat.le_refl _); (case side3 => exact Kd.C_nil _ _); (case side4 => exact Nat.le_refl _); (case side5 => repeat (first | exact (Kd.R_reads' HO108.out).2.2 | (with_reducible refine Kd.C_alloc ?_ _) | (with_reducible refine Kd.C_drewN ?_ _) | (with_reducible refine Kd.C_drew ?_))); (case side6 => exact (Kd.R_reads' HO108.out).2.1); rintro e w11 ⟨v110, rfl, ho0, hb⟩; refine ⟨_, rfl, ?_⟩; have n0_ := Aside0.mk (Kd.R_below (by (with_reducible repeat (first | apply Kd.R_alloc | apply Kd.R_drewN | apply Kd.R_drew)); exact HO108.out) hb); have n1_ := Aside0.mk (Kd.R_lower ho0 (below_size (by repeat (first | (with_reducible first | exact HB.out | apply below_alloc | apply pw_below_drewN | apply below_drew1) | exact HB.out)))); have n2_ := Aside0.mk (below_step (by repeat (first | (with_reducible first | exact HB.out | apply below_alloc | apply pw_below_drewN | apply below_drew1) | exact HB.out)) hb); clear HO108; clear HB; have HO108 := n0_; have HO111 := n1_; have HB := n2_; clear n0_ n1_ n2_; (try clear hb); (try clear hb2); (try clear hk); (try clear hi); (try clear ho0)) | ((with_reducible refine gate_dst (N := 14) rfl ?_); refine Kd.R_lit k40 _ 40 ?hg (N := 14) ?hd (xs := ([(⟨0, 0, 8, 0, 0, 0⟩ : S40), (⟨0, 0, 14, 0, 0, 0⟩ : S40), (⟨1, 0, 13, 0, 0, 0⟩ : S40), (⟨1, 0, 7, 0, 0, 0⟩ : S40)] : List (S40))) (inner := [.int .i64 0, .int .i64 0, .int .u8 8, .int .i64 0, .int .i64 0, .int .i64 0, .int .i64 0, .int .i64 0, .int .u8 14, .int .i64 0, .int .i64 0, .int .i64 0, .int .i64 1, .int .i64 0, .int .u8 13, .int .i64 0, .int .i64 0, .int .i64 0, .int .i64 1, .int .i64 0, .int .u8 7, .int .i64 0, .int .i64 0, .int .i64 0]) (ok := fun _ => True) (okp := fun _ => True) ?hr ?hp (fun _ hk => hk) trivial (Below.refl _ _) (Nat.le_refl _) (by simp) ?_; (case hd => rfl); (case hg => rfl); (case hr => first | (go_simp; done) | (go_simp; rfl)); (case hp => exact (Reps.c6 (show Kd.M k40 _ _ _ (⟨0, 0, 8, 0, 0, 0⟩ : S40) [.int .i64 0, .int .i64 0, .int .u8 8, .int .i64 0, .int .i64 0, .int .i64 0] from (k40_mkM _ _ _ (⟨0, 0, 8, 0, 0, 0⟩ : S40) )) (Reps.c6 (show Kd.M k40 _ _ _ (⟨0, 0, 14, 0, 0, 0⟩ : S40) [.int .i64 0, .int .i64 0, .int .u8 14, .int .i64 0, .int .i64 0, .int .i64 0] from (k40_mkM _ _ _ (⟨0, 0, 14, 0, 0, 0⟩ : S40) )) (Reps.c6 (show Kd.M k40 _ _ _ (⟨1, 0, 13, 0, 0, 0⟩ : S40) [.int .i64 1, .int .i64 0, .int .u8 13, .int .i64 0, .int .i64 0, .int .i64 0] from (k40_mkM _ _ _ (⟨1, 0, 13, 0, 0, 0⟩ : S40) )) (Reps.c6 (show Kd.M k40 _ _ _ (⟨1, 0, 7, 0, 0, 0⟩ : S40) [.int .i64 1, .int .i64 0, .int .u8 7, .int .i64 0, .int .i64 0, .int .i64 0] from (k40_mkM _ _ _ (⟨1, 0, 7, 0, 0, 0⟩ : S40) )) (Reps.none _ _)))))); intro v113 w12 ho13 hb hg_ hnew_; clear hg_ hnew_; (first | rw [← Ny112.out] at ho13 | (simp only [Int.reduceToNat] at ho13; rw [← Ny112.out] at ho13)); have n0_ := Aside0.mk (Kd.R_elder' (by (with_reducible repeat (first | apply Kd.R_alloc | apply Kd.R_drewN | apply Kd.R_drew)); exact HO108.out) (Kd.R_base ho13) hb); have n1_ := Aside0.mk (Kd.R_below (by (with_reducible repeat (first | apply Kd.R_alloc | apply Kd.R_drewN | apply Kd.R_drew)); exact HO111.out) hb); have n2_ := Aside0.mk (Kd.R_lower (Kd.R_new' ho13 (Kd.R_lt (by (with_reducible repeat (first | apply Kd.R_alloc | apply Kd.R_drewN | apply Kd.R_drew)); exact HO108.out))) (below_size (by repeat (first | (with_reducible first | exact HB.out | apply below_alloc | apply pw_below_drewN | apply below_drew1) | exact HB.out)))); have n3_ := Aside0.mk (below_step (by repeat (first | (with_reducible first | exact HB.out | apply below_alloc | apply pw_below_drewN | apply below_drew1) | exact HB.out)) hb); clear HO108; clear HO111; clear HB; have HO108 := n0_; have HO111 := n1_; have HO114 := n2_; have HB := n3_; clear n0_ n1_ n2_ n3_; clear hb ho13; obtain ⟨Ao14, co14, eo14⟩ := Kd.R_slice HO111.out; subst eo14; have p115 : 0 ≤ (0 : Int) := (by omega); have q115 : 0 < (t109.length : Int) := of_decide_eq_true (by first | (with_reducible assumption) | assumption); obtain ⟨ad115, e115, hx115_0, hx115_1⟩ := at_T55 (Kd.R_reads' HO111.out).2.2 0 p115 q115; cases e115; have qi115 : (0 < t109.length) = True := eq_true (by omega); (try rw [show ((0 : Int)).toNat = 0 from rfl] at hx115_0); (try rw [show 0 * 2 = 0 from rfl] at hx115_0); (try rw [Addr.add_zero'] at hx115_0); (try rw [show ((0 : Int)).toNat = 0 from rfl] at hx115_1); (try rw [show 0 * 2 = 0 from rfl] at hx115_1); (try rw [Addr.add_zero'] at hx115_1); replace p115 := eq_true p115; replace q115 := eq_true q115) | (go_at_call 13; (refine (race_Racy.calls 0 0 0 _ _ ([] : List Int) 0 0 _ _ ([] : List (List (S25))) _ _ y106 true _ ?side1 ?side2 ?side3 ?side4 ?side5 ?side6 A5.out).mono ?_); (case side1 => exact Kd.C_nil _ _); (case side2 => exact Nat.le_refl _); (case side3 => exact Kd.C_nil _ _); (case side4 => exact Nat.le_refl _); (case side5 => repeat (first | exact (Kd.R_reads' HO108.out).2.2 | (with_reducible refine Kd.C_alloc ?_ _) | (with_reducible refine Kd.C_drewN ?_ _) | (with_reducible refine Kd.C_drew ?_))); (case side6 => exact (Kd.R_reads' HO108.out).2.1); rintro e w15 ⟨rfl, hb⟩; clear A5; have n0_ := Aside0.mk (Kd.R_below (by (with_reducible repeat (first | apply Kd.R_alloc | apply Kd.R_drewN | apply Kd.R_drew)); exact HO108.out) hb); have n1_ := Aside0.mk (Kd.R_below (by (with_reducible repeat (first | apply Kd.R_alloc | apply Kd.R_drewN | apply Kd.R_drew)); exact HO111.out) hb); have n2_ := Aside0.mk (Kd.R_below (by (with_reducible repeat (first | apply Kd.R_alloc | apply Kd.R_drewN | apply Kd.R_drew)); exact HO114.out) hb); have n3_ := Aside0.mk (below_step (by repeat (first | (with_reducible first | exact HB.out | apply below_alloc | apply pw_below_drewN | apply below_drew1) | exact HB.out)) hb); clear HO108; clear HO111; clear HO114; clear HB; have HO108 := n0_; have HO111 := n1_; have HO114 := n2_; have HB := n3_; clear n0_ n1_ n2_ n3_; (try clear hb); (try clear hb2); (try clear hk); (try clear hi); obtain ⟨Ao16, co16, eo16⟩ := Kd.R_slice HO114.out; subst eo16) | (go_at_call 13; (refine (race_Racy.calls 0 0 0 _ _ ([] : List Int) 0 0 _ _ ([] : List (List (S25))) _ _ y112 t117 _ ?side1 ?side2 ?side3 ?side4 ?side5 ?side6 A7.out).mono ?_); (case side1 => exact Kd.C_nil _ _); (case side2 => exact Nat.le_refl _); (case side3 => exact Kd.C_nil _ _); (case side4 => exact Nat.le_refl _); (case side5 => repeat (first | exact (Kd.R_reads' HO114.out).2.2 | (with_reducible refine Kd.C_alloc ?_ _) | (with_reducible refine Kd.C_drewN ?_ _) | (with_reducible refine Kd.C_drew ?_))); (case side6 => exact (Kd.R_reads' HO114.out).2.1); rintro e w17 ⟨rfl, hb⟩; clear A7; have n0_ := Aside0.mk (Kd.R_below (by (with_reducible repeat (first | apply Kd.R_alloc | apply Kd.R_drewN | apply Kd.R_drew)); exact HO108.out) hb); have n1_ := Aside0.mk (Kd.R_below (by (with_reducible repeat (first | apply Kd.R_alloc | apply Kd.R_drewN | apply Kd.R_drew)); exact HO111.out) hb); have n2_ := Aside0.mk (Kd.R_below (by (with_reducible repeat (first | apply Kd.R_alloc | apply Kd.R_drewN | apply Kd.R_drew)); exact HO114.out) hb); have n3_ := Aside0.mk (below_step (by repeat (first | (with_reducible first | exact HB.out | apply below_alloc | apply pw_below_drewN | apply below_drew1) | exact HB.out)) hb); clear HO108; clear HO111; clear HO114; clear HB; have HO108 := n0_; have HO111 := n1_; have HO114 := n2_; have HB := n3_; clear n0_ n1_ n2_ n3_; (try clear hb); (try clear hb2); (try clear hk); (try clear hi)))
          go_ret
          exact ⟨by first | rfl | (simp [errW_none, errW_some] <;> rfl) | (simp [*, errW_none, errW_some] <;> rfl), by repeat (first | (with_reducible first | exact HB.out | apply below_alloc | apply pw_below_drewN | apply below_drew1) | exact HB.out)⟩
        · replace c6 := Bool.eq_false_iff.mpr c6
          subst c6
          have H1 : (some false) = some r := by rw [if_neg (show ¬ (false = true) by decide)] at H; exact H
          clear H
          have H := H1
          clear H1
          obtain rfl := Option.some.inj H
          go_enter Try.func12, Try.ntmps12
          go_wp2_with (first | ((with_reducible refine gate_dst (N := 6) rfl ?_); refine Kd.R_lit k40 _ 40 ?hg (N := 6) ?hd (xs := ([(⟨0, 0, 8, 0, 0, 0⟩ : S40), (⟨1, 0, 7, 0, 0, 0⟩ : S40)] : List (S40))) (inner := [.int .i64 0, .int .i64 0, .int .u8 8, .int .i64 0, .int .i64 0, .int .i64 0, .int .i64 1, .int .i64 0, .int .u8 7, .int .i64 0, .int .i64 0, .int .i64 0]) (ok := fun _ => True) (okp := fun _ => True) ?hr ?hp (fun _ hk => hk) trivial (Below.refl _ _) (Nat.le_refl _) (by simp) ?_; (case hd => rfl); (case hg => rfl); (case hr => first | (go_simp; done) | (go_simp; rfl)); (case hp => exact (Reps.c6 (show Kd.M k40 _ _ _ (⟨0, 0, 8, 0, 0, 0⟩ : S40) [.int .i64 0, .int .i64 0, .int .u8 8, .int .i64 0, .int .i64 0, .int .i64 0] from (k40_mkM _ _ _ (⟨0, 0, 8, 0, 0, 0⟩ : S40) )) (Reps.c6 (show Kd.M k40 _ _ _ (⟨1, 0, 7, 0, 0, 0⟩ : S40) [.int .i64 1, .int .i64 0, .int .u8 7, .int .i64 0, .int .i64 0, .int .i64 0] from (k40_mkM _ _ _ (⟨1, 0, 7, 0, 0, 0⟩ : S40) )) (Reps.none _ _)))); intro v107 w18 ho19 hb hg_ hnew_; clear hg_ hnew_; (first | rw [← Ny106.out] at ho19 | (simp only [Int.reduceToNat] at ho19; rw [← Ny106.out] at ho19)); have n0_ := Aside0.mk (Kd.R_lower ho19 (below_size (by repeat (first | (with_reducible first | exact HB.out | apply below_alloc | apply pw_below_drewN | apply below_drew1) | exact HB.out)))); have n1_ := Aside0.mk (below_step (by repeat (first | (with_reducible first | exact HB.out | apply below_alloc | apply pw_below_drewN | apply below_drew1) | exact HB.out)) hb); clear HB; have HO108 := n0_; have HB := n1_; clear n0_ n1_; clear hb ho19; obtain ⟨Ao20, co20, eo20⟩ := Kd.R_slice HO108.out; subst eo20) | ((with_reducible refine gate_callee (f := 17) rfl ?_); refine goesL_ (some 9) rfl rfl Try.func17 (by kernel_rfl) rfl #[.agg #[.int .i64 0, .int .i64 0, .int .i64 0, .slice none 0 0, .int .i64 0, .int .i64 0, .slice none 0 0], .slice Ao20 y106.length co20] rfl (by (try simp only [List.map_toArray, List.map_cons, List.map_nil]); first | done | rfl | (simp only [List.length_drop, List.length_take]; rfl)) ?_; (refine (race_Find.calls 0 0 0 _ _ ([] : List Int) 0 0 _ _ ([] : List (List (S25))) _ _ y106 t109 _ ?side1 ?side2 ?side3 ?side4 ?side5 ?side6 A1.out).mono ?_); (case side1 => exact Kd.C_nil _ _); (case side2 => exact Nat.le_refl _); (case side3 => exact Kd.C_nil _ _); (case side4 => exact Nat.le_refl _); (case side5 => repeat (first | exact (Kd.R_reads' HO108.out).2.2 | (with_reducible refine Kd.C_alloc ?_ _) | (with_reducible refine Kd.C_drewN ?_ _) | (with_reducible refine Kd.C_drew ?_))); (case side6 => exact (Kd.R_reads' HO108.out).2.1); rintro e w21 ⟨v110, rfl, ho0, hb⟩; refine ⟨_, rfl, ?_⟩; have n0_ := Aside0.mk (Kd.R_below (by (with_reducible repeat (first | apply Kd.R_alloc | apply Kd.R_drewN | apply Kd.R_drew)); exact HO108.out) hb); have n1_ := Aside0.mk (Kd.R_lower ho0 (below_size (by repeat (first | (with_reducible first | exact HB.out | apply below_alloc | apply pw_below_drewN | apply below_drew1) | exact HB.out)))); have n2_ := Aside0.mk (below_step (by repeat (first | (with_reducible first | exact HB.out | apply below_alloc | apply pw_below_drewN | apply below_drew1) | exact HB.out)) hb); clear HO108; clear HB; have HO108 := n0_; have HO111 := n1_; have HB := n2_; clear n0_ n1_ n2_; (try clear hb); (try clear hb2); (try clear hk); (try clear hi); (try clear ho0)) | ((with_reducible refine gate_dst (N := 14) rfl ?_); refine Kd.R_lit k40 _ 40 ?hg (N := 14) ?hd (xs := ([(⟨0, 0, 8, 0, 0, 0⟩ : S40), (⟨0, 0, 14, 0, 0, 0⟩ : S40), (⟨1, 0, 13, 0, 0, 0⟩ : S40), (⟨1, 0, 7, 0, 0, 0⟩ : S40)] : List (S40))) (inner := [.int .i64 0, .int .i64 0, .int .u8 8, .int .i64 0, .int .i64 0, .int .i64 0, .int .i64 0, .int .i64 0, .int .u8 14, .int .i64 0, .int .i64 0, .int .i64 0, .int .i64 1, .int .i64 0, .int .u8 13, .int .i64 0, .int .i64 0, .int .i64 0, .int .i64 1, .int .i64 0, .int .u8 7, .int .i64 0, .int .i64 0, .int .i64 0]) (ok := fun _ => True) (okp := fun _ => True) ?hr ?hp (fun _ hk => hk) trivial (Below.refl _ _) (Nat.le_refl _) (by simp) ?_; (case hd => rfl); (case hg => rfl); (case hr => first | (go_simp; done) | (go_simp; rfl)); (case hp => exact (Reps.c6 (show Kd.M k40 _ _ _ (⟨0, 0, 8, 0, 0, 0⟩ : S40) [.int .i64 0, .int .i64 0, .int .u8 8, .int .i64 0, .int .i64 0, .int .i64 0] from (k40_mkM _ _ _ (⟨0, 0, 8, 0, 0, 0⟩ : S40) )) (Reps.c6 (show Kd.M k40 _ _ _ (⟨0, 0, 14, 0, 0, 0⟩ : S40) [.int .i64 0, .int .i64 0, .int .u8 14, .int .i64 0, .int .i64 0, .int .i64 0] from (k40_mkM _ _ _ (⟨0, 0, 14, 0, 0, 0⟩ : S40) )) (Reps.c6 (show Kd.M k40 _ _ _ (⟨1, 0, 13, 0, 0, 0⟩ : S40) [.int .i64 1, .int .i64 0, .int .u8 13, .int .i64 0, .int .i64 0, .int .i64 0] from (k40_mkM _ _ _ (⟨1, 0, 13, 0, 0, 0⟩ : S40) )) (Reps.c6 (show Kd.M k40 _ _ _ (⟨1, 0, 7, 0, 0, 0⟩ : S40) [.int .i64 1, .int .i64 0, .int .u8 7, .int .i64 0, .int .i64 0, .int .i64 0] from (k40_mkM _ _ _ (⟨1, 0, 7, 0, 0, 0⟩ : S40) )) (Reps.none _ _)))))); intro v113 w22 ho23 hb hg_ hnew_; clear hg_ hnew_; (first | rw [← Ny112.out] at ho23 | (simp only [Int.reduceToNat] at ho23; rw [← Ny112.out] at ho23)); have n0_ := Aside0.mk (Kd.R_elder' (by (with_reducible repeat (first | apply Kd.R_alloc | apply Kd.R_drewN | apply Kd.R_drew)); exact HO108.out) (Kd.R_base ho23) hb); have n1_ := Aside0.mk (Kd.R_below (by (with_reducible repeat (first | apply Kd.R_alloc | apply Kd.R_drewN | apply Kd.R_drew)); exact HO111.out) hb); have n2_ := Aside0.mk (Kd.R_lower (Kd.R_new' ho23 (Kd.R_lt (by (with_reducible repeat (first | apply Kd.R_alloc | apply Kd.R_drewN | apply Kd.R_drew)); exact HO108.out))) (below_size (by repeat (first | (with_reducible first | exact HB.out | apply below_alloc | apply pw_below_drewN | apply below_drew1) | exact HB.out)))); have n3_ := Aside0.mk (below_step (by repeat (first | (with_reducible first | exact HB.out | apply below_alloc | apply pw_below_drewN | apply below_drew1) | exact HB.out)) hb); clear HO108; clear HO111; clear HB; have HO108 := n0_; have HO111 := n1_; have HO114 := n2_; have HB := n3_; clear n0_ n1_ n2_ n3_; clear hb ho23; obtain ⟨Ao24, co24, eo24⟩ := Kd.R_slice HO111.out; subst eo24; have p115 : 0 ≤ (0 : Int) := (by omega); have q115 : 0 < (t109.length : Int) := of_decide_eq_true (by first | (with_reducible assumption) | assumption); obtain ⟨ad115, e115, hx115_0, hx115_1⟩ := at_T55 (Kd.R_reads' HO111.out).2.2 0 p115 q115; cases e115; have qi115 : (0 < t109.length) = True := eq_true (by omega); (try rw [show ((0 : Int)).toNat = 0 from rfl] at hx115_0); (try rw [show 0 * 2 = 0 from rfl] at hx115_0); (try rw [Addr.add_zero'] at hx115_0); (try rw [show ((0 : Int)).toNat = 0 from rfl] at hx115_1); (try rw [show 0 * 2 = 0 from rfl] at hx115_1); (try rw [Addr.add_zero'] at hx115_1); replace p115 := eq_true p115; replace q115 := eq_true q115) | (go_at_call 13; (refine (race_Racy.calls 0 0 0 _ _ ([] : List Int) 0 0 _ _ ([] : List (List (S25))) _ _ y106 false _ ?side1 ?side2 ?side3 ?side4 ?side5 ?side6 A5.out).mono ?_); (case side1 => exact Kd.C_nil _ _); (case side2 => exact Nat.le_refl _); (case side3 => exact Kd.C_nil _ _); (case side4 => exact Nat.le_refl _); (case side5 => repeat (first | exact (Kd.R_reads' HO108.out).2.2 | (with_reducible refine Kd.C_alloc ?_ _) | (with_reducible refine Kd.C_drewN ?_ _) | (with_reducible refine Kd.C_drew ?_))); (case side6 => exact (Kd.R_reads' HO108.out).2.1); rintro e w25 ⟨rfl, hb⟩; clear A5; have n0_ := Aside0.mk (Kd.R_below (by (with_reducible repeat (first | apply Kd.R_alloc | apply Kd.R_drewN | apply Kd.R_drew)); exact HO108.out) hb); have n1_ := Aside0.mk (Kd.R_below (by (with_reducible repeat (first | apply Kd.R_alloc | apply Kd.R_drewN | apply Kd.R_drew)); exact HO111.out) hb); have n2_ := Aside0.mk (Kd.R_below (by (with_reducible repeat (first | apply Kd.R_alloc | apply Kd.R_drewN | apply Kd.R_drew)); exact HO114.out) hb); have n3_ := Aside0.mk (below_step (by repeat (first | (with_reducible first | exact HB.out | apply below_alloc | apply pw_below_drewN | apply below_drew1) | exact HB.out)) hb); clear HO108; clear HO111; clear HO114; clear HB; have HO108 := n0_; have HO111 := n1_; have HO114 := n2_; have HB := n3_; clear n0_ n1_ n2_ n3_; (try clear hb); (try clear hb2); (try clear hk); (try clear hi)))
          go_ret
          exact ⟨by first | rfl | (simp [errW_none, errW_some] <;> rfl) | (simp [*, errW_none, errW_some] <;> rfl), by repeat (first | (with_reducible first | exact HB.out | apply below_alloc | apply pw_below_drewN | apply below_drew1) | exact HB.out)⟩
      · rw [if_neg c4] at H
        have c4b0 : (((rd_T55 t109 0).f0) == 0 && (((rd_T55 t109 0).f1) == 1)) = false := by simpa using c4
        (try (have c4b1 : decide (((rd_T55 t109 0).f0) = 0 && (((rd_T55 t109 0).f1) == 1)) = false := by simpa using c4))
        (try (have c4b2 : (((rd_T55 t109 0).f0) == 0 && (((rd_T55 t109 0).f1) == 1)) = false := by simpa using c4))
        (try (have c4b3 : ¬ (((rd_T55 t109 0).f0) = 0 && (((rd_T55 t109 0).f1) == 1)) := by simpa using c4))
        clear c4
        obtain rfl := Option.some.inj H
        go_enter Try.func12, Try.ntmps12
        go_wp2_with (first | ((with_reducible refine gate_dst (N := 6) rfl ?_); refine Kd.R_lit k40 _ 40 ?hg (N := 6) ?hd (xs := ([(⟨0, 0, 8, 0, 0, 0⟩ : S40), (⟨1, 0, 7, 0, 0, 0⟩ : S40)] : List (S40))) (inner := [.int .i64 0, .int .i64 0, .int .u8 8, .int .i64 0, .int .i64 0, .int .i64 0, .int .i64 1, .int .i64 0, .int .u8 7, .int .i64 0, .int .i64 0, .int .i64 0]) (ok := fun _ => True) (okp := fun _ => True) ?hr ?hp (fun _ hk => hk) trivial (Below.refl _ _) (Nat.le_refl _) (by simp) ?_; (case hd => rfl); (case hg => rfl); (case hr => first | (go_simp; done) | (go_simp; rfl)); (case hp => exact (Reps.c6 (show Kd.M k40 _ _ _ (⟨0, 0, 8, 0, 0, 0⟩ : S40) [.int .i64 0, .int .i64 0, .int .u8 8, .int .i64 0, .int .i64 0, .int .i64 0] from (k40_mkM _ _ _ (⟨0, 0, 8, 0, 0, 0⟩ : S40) )) (Reps.c6 (show Kd.M k40 _ _ _ (⟨1, 0, 7, 0, 0, 0⟩ : S40) [.int .i64 1, .int .i64 0, .int .u8 7, .int .i64 0, .int .i64 0, .int .i64 0] from (k40_mkM _ _ _ (⟨1, 0, 7, 0, 0, 0⟩ : S40) )) (Reps.none _ _)))); intro v107 w26 ho27 hb hg_ hnew_; clear hg_ hnew_; (first | rw [← Ny106.out] at ho27 | (simp only [Int.reduceToNat] at ho27; rw [← Ny106.out] at ho27)); have n0_ := Aside0.mk (Kd.R_lower ho27 (below_size (by repeat (first | (with_reducible first | exact HB.out | apply below_alloc | apply pw_below_drewN | apply below_drew1) | exact HB.out)))); have n1_ := Aside0.mk (below_step (by repeat (first | (with_reducible first | exact HB.out | apply below_alloc | apply pw_below_drewN | apply below_drew1) | exact HB.out)) hb); clear HB; have HO108 := n0_; have HB := n1_; clear n0_ n1_; clear hb ho27; obtain ⟨Ao28, co28, eo28⟩ := Kd.R_slice HO108.out; subst eo28) | ((with_reducible refine gate_callee (f := 17) rfl ?_); refine goesL_ (some 9) rfl rfl Try.func17 (by kernel_rfl) rfl #[.agg #[.int .i64 0, .int .i64 0, .int .i64 0, .slice none 0 0, .int .i64 0, .int .i64 0, .slice none 0 0], .slice Ao28 y106.length co28] rfl (by (try simp only [List.map_toArray, List.map_cons, List.map_nil]); first | done | rfl | (simp only [List.length_drop, List.length_take]; rfl)) ?_; (refine (race_Find.calls 0 0 0 _ _ ([] : List Int) 0 0 _ _ ([] : List (List (S25))) _ _ y106 t109 _ ?side1 ?side2 ?side3 ?side4 ?side5 ?side6 A1.out).mono ?_); (case side1 => exact Kd.C_nil _ _); (case side2 => exact Nat.le_refl _); (case side3 => exact Kd.C_nil _ _); (case side4 => exact Nat.le_refl _); (case side5 => repeat (first | exact (Kd.R_reads' HO108.out).2.2 | (with_reducible refine Kd.C_alloc ?_ _) | (with_reducible refine Kd.C_drewN ?_ _) | (with_reducible refine Kd.C_drew ?_))); (case side6 => exact (Kd.R_reads' HO108.out).2.1); rintro e w29 ⟨v110, rfl, ho0, hb⟩; refine ⟨_, rfl, ?_⟩; have n0_ := Aside0.mk (Kd.R_below (by (with_reducible repeat (first | apply Kd.R_alloc | apply Kd.R_drewN | apply Kd.R_drew)); exact HO108.out) hb); have n1_ := Aside0.mk (Kd.R_lower ho0 (below_size (by repeat (first | (with_reducible first | exact HB.out | apply below_alloc | apply pw_below_drewN | apply below_drew1) | exact HB.out)))); have n2_ := Aside0.mk (below_step (by repeat (first | (with_reducible first | exact HB.out | apply below_alloc | apply pw_below_drewN | apply below_drew1) | exact HB.out)) hb); clear HO108; clear HB; have HO108 := n0_; have HO111 := n1_; have HB := n2_; clear n0_ n1_ n2_; (try clear hb); (try clear hb2); (try clear hk); (try clear hi); (try clear ho0)) | ((with_reducible refine gate_dst (N := 14) rfl ?_); refine Kd.R_lit k40 _ 40 ?hg (N := 14) ?hd (xs := ([(⟨0, 0, 8, 0, 0, 0⟩ : S40), (⟨0, 0, 14, 0, 0, 0⟩ : S40), (⟨1, 0, 13, 0, 0, 0⟩ : S40), (⟨1, 0, 7, 0, 0, 0⟩ : S40)] : List (S40))) (inner := [.int .i64 0, .int .i64 0, .int .u8 8, .int .i64 0, .int .i64 0, .int .i64 0, .int .i64 0, .int .i64 0, .int .u8 14, .int .i64 0, .int .i64 0, .int .i64 0, .int .i64 1, .int .i64 0, .int .u8 13, .int .i64 0, .int .i64 0, .int .i64 0, .int .i64 1, .int .i64 0, .int .u8 7, .int .i64 0, .int .i64 0, .int .i64 0]) (ok := fun _ => True) (okp := fun _ => True) ?hr ?hp (fun _ hk => hk) trivial (Below.refl _ _) (Nat.le_refl _) (by simp) ?_; (case hd => rfl); (case hg => rfl); (case hr => first | (go_simp; done) | (go_simp; rfl)); (case hp => exact (Reps.c6 (show Kd.M k40 _ _ _ (⟨0, 0, 8, 0, 0, 0⟩ : S40) [.int .i64 0, .int .i64 0, .int .u8 8, .int .i64 0, .int .i64 0, .int .i64 0] from (k40_mkM _ _ _ (⟨0, 0, 8, 0, 0, 0⟩ : S40) )) (Reps.c6 (show Kd.M k40 _ _ _ (⟨0, 0, 14, 0, 0, 0⟩ : S40) [.int .i64 0, .int .i64 0, .int .u8 14, .int .i64 0, .int .i64 0, .int .i64 0] from (k40_mkM _ _ _ (⟨0, 0, 14, 0, 0, 0⟩ : S40) )) (Reps.c6 (show Kd.M k40 _ _ _ (⟨1, 0, 13, 0, 0, 0⟩ : S40) [.int .i64 1, .int .i64 0, .int .u8 13, .int .i64 0, .int .i64 0, .int .i64 0] from (k40_mkM _ _ _ (⟨1, 0, 13, 0, 0, 0⟩ : S40) )) (Reps.c6 (show Kd.M k40 _ _ _ (⟨1, 0, 7, 0, 0, 0⟩ : S40) [.int .i64 1, .int .i64 0, .int .u8 7, .int .i64 0, .int .i64 0, .int .i64 0] from (k40_mkM _ _ _ (⟨1, 0, 7, 0, 0, 0⟩ : S40) )) (Reps.none _ _)))))); intro v113 w30 ho31 hb hg_ hnew_; clear hg_ hnew_; (first | rw [← Ny112.out] at ho31 | (simp only [Int.reduceToNat] at ho31; rw [← Ny112.out] at ho31)); have n0_ := Aside0.mk (Kd.R_elder' (by (with_reducible repeat (first | apply Kd.R_alloc | apply Kd.R_drewN | apply Kd.R_drew)); exact HO108.out) (Kd.R_base ho31) hb); have n1_ := Aside0.mk (Kd.R_below (by (with_reducible repeat (first | apply Kd.R_alloc | apply Kd.R_drewN | apply Kd.R_drew)); exact HO111.out) hb); have n2_ := Aside0.mk (Kd.R_lower (Kd.R_new' ho31 (Kd.R_lt (by (with_reducible repeat (first | apply Kd.R_alloc | apply Kd.R_drewN | apply Kd.R_drew)); exact HO108.out))) (below_size (by repeat (first | (with_reducible first | exact HB.out | apply below_alloc | apply pw_below_drewN | apply below_drew1) | exact HB.out)))); have n3_ := Aside0.mk (below_step (by repeat (first | (with_reducible first | exact HB.out | apply below_alloc | apply pw_below_drewN | apply below_drew1) | exact HB.out)) hb); clear HO108; clear HO111; clear HB; have HO108 := n0_; have HO111 := n1_; have HO114 := n2_; have HB := n3_; clear n0_ n1_ n2_ n3_; clear hb ho31; obtain ⟨Ao32, co32, eo32⟩ := Kd.R_slice HO111.out; subst eo32; have p115 : 0 ≤ (0 : Int) := (by omega); have q115 : 0 < (t109.length : Int) := of_decide_eq_true (by first | (with_reducible assumption) | assumption); obtain ⟨ad115, e115, hx115_0, hx115_1⟩ := at_T55 (Kd.R_reads' HO111.out).2.2 0 p115 q115; cases e115; have qi115 : (0 < t109.length) = True := eq_true (by omega); (try rw [show ((0 : Int)).toNat = 0 from rfl] at hx115_0); (try rw [show 0 * 2 = 0 from rfl] at hx115_0); (try rw [Addr.add_zero'] at hx115_0); (try rw [show ((0 : Int)).toNat = 0 from rfl] at hx115_1); (try rw [show 0 * 2 = 0 from rfl] at hx115_1); (try rw [Addr.add_zero'] at hx115_1); replace p115 := eq_true p115; replace q115 := eq_true q115))
        go_ret
        exact ⟨by first | rfl | (simp [errW_none, errW_some] <;> rfl) | (simp [*, errW_none, errW_some] <;> rfl), by repeat (first | (with_reducible first | exact HB.out | apply below_alloc | apply pw_below_drewN | apply below_drew1) | exact HB.out)⟩
    · rw [if_neg c3] at H
      exact absurd H (by simp)
  · rw [if_neg c2] at H
    have c2b0 : ((t109.length : Int) == 1) = false := beq_eq_false_iff_ne.mpr c2
    have c2b1 : ((t109.length : Int) != 1) = true := bne_iff_ne.mpr c2
    obtain rfl := Option.some.inj H
    go_enter Try.func12, Try.ntmps12
    go_wp2_with (first | ((with_reducible refine gate_dst (N := 6) rfl ?_); refine Kd.R_lit k40 _ 40 ?hg (N := 6) ?hd (xs := ([(⟨0, 0, 8, 0, 0, 0⟩ : S40), (⟨1, 0, 7, 0, 0, 0⟩ : S40)] : List (S40))) (inner := [.int .i64 0, .int .i64 0, .int .u8 8, .int .i64 0, .int .i64 0, .int .i64 0, .int .i64 1, .int .i64 0, .int .u8 7, .int .i64 0, .int .i64 0, .int .i64 0]) (ok := fun _ => True) (okp := fun _ => True) ?hr ?hp (fun _ hk => hk) trivial (Below.refl _ _) (Nat.le_refl _) (by simp) ?_; (case hd => rfl); (case hg => rfl); (case hr => first | (go_simp; done) | (go_simp; rfl)); (case hp => exact (Reps.c6 (show Kd.M k40 _ _ _ (⟨0, 0, 8, 0, 0, 0⟩ : S40) [.int .i64 0, .int .i64 0, .int .u8 8, .int .i64 0, .int .i64 0, .int .i64 0] from (k40_mkM _ _ _ (⟨0, 0, 8, 0, 0, 0⟩ : S40) )) (Reps.c6 (show Kd.M k40 _ _ _ (⟨1, 0, 7, 0, 0, 0⟩ : S40) [.int .i64 1, .int .i64 0, .int .u8 7, .int .i64 0, .int .i64 0, .int .i64 0] from (k40_mkM _ _ _ (⟨1, 0, 7, 0, 0, 0⟩ : S40) )) (Reps.none _ _)))); intro v107 w33 ho34 hb hg_ hnew_; clear hg_ hnew_; (first | rw [← Ny106.out] at ho34 | (simp only [Int.reduceToNat] at ho34; rw [← Ny106.out] at ho34)); have n0_ := Aside0.mk (Kd.R_lower ho34 (below_size (by repeat (first | (with_reducible first | exact HB.out | apply below_alloc | apply pw_below_drewN | apply below_drew1) | exact HB.out)))); have n1_ := Aside0.mk (below_step (by repeat (first | (with_reducible first | exact HB.out | apply below_alloc | apply pw_below_drewN | apply below_drew1) | exact HB.out)) hb); clear HB; have HO108 := n0_; have HB := n1_; clear n0_ n1_; clear hb ho34; obtain ⟨Ao35, co35, eo35⟩ := Kd.R_slice HO108.out; subst eo35) | ((with_reducible refine gate_callee (f := 17) rfl ?_); refine goesL_ (some 9) rfl rfl Try.func17 (by kernel_rfl) rfl #[.agg #[.int .i64 0, .int .i64 0, .int .i64 0, .slice none 0 0, .int .i64 0, .int .i64 0, .slice none 0 0], .slice Ao35 y106.length co35] rfl (by (try simp only [List.map_toArray, List.map_cons, List.map_nil]); first | done | rfl | (simp only [List.length_drop, List.length_take]; rfl)) ?_; (refine (race_Find.calls 0 0 0 _ _ ([] : List Int) 0 0 _ _ ([] : List (List (S25))) _ _ y106 t109 _ ?side1 ?side2 ?side3 ?side4 ?side5 ?side6 A1.out).mono ?_); (case side1 => exact Kd.C_nil _ _); (case side2 => exact Nat.le_refl _); (case side3 => exact Kd.C_nil _ _); (case side4 => exact Nat.le_refl _); (case side5 => repeat (first | exact (Kd.R_reads' HO108.out).2.2 | (with_reducible refine Kd.C_alloc ?_ _) | (with_reducible refine Kd.C_drewN ?_ _) | (with_reducible refine Kd.C_drew ?_))); (case side6 => exact (Kd.R_reads' HO108.out).2.1); rintro e w36 ⟨v110, rfl, ho0, hb⟩; refine ⟨_, rfl, ?_⟩; have n0_ := Aside0.mk (Kd.R_below (by (with_reducible repeat (first | apply Kd.R_alloc | apply Kd.R_drewN | apply Kd.R_drew)); exact HO108.out) hb); have n1_ := Aside0.mk (Kd.R_lower ho0 (below_size (by repeat (first | (with_reducible first | exact HB.out | apply below_alloc | apply pw_below_drewN | apply below_drew1) | exact HB.out)))); have n2_ := Aside0.mk (below_step (by repeat (first | (with_reducible first | exact HB.out | apply below_alloc | apply pw_below_drewN | apply below_drew1) | exact HB.out)) hb); clear HO108; clear HB; have HO108 := n0_; have HO111 := n1_; have HB := n2_; clear n0_ n1_ n2_; (try clear hb); (try clear hb2); (try clear hk); (try clear hi); (try clear ho0)) | ((with_reducible refine gate_dst (N := 14) rfl ?_); refine Kd.R_lit k40 _ 40 ?hg (N := 14) ?hd (xs := ([(⟨0, 0, 8, 0, 0, 0⟩ : S40), (⟨0, 0, 14, 0, 0, 0⟩ : S40), (⟨1, 0, 13, 0, 0, 0⟩ : S40), (⟨1, 0, 7, 0, 0, 0⟩ : S40)] : List (S40))) (inner := [.int .i64 0, .int .i64 0, .int .u8 8, .int .i64 0, .int .i64 0, .int .i64 0, .int .i64 0, .int .i64 0, .int .u8 14, .int .i64 0, .int .i64 0, .int .i64 0, .int .i64 1, .int .i64 0, .int .u8 13, .int .i64 0, .int .i64 0, .int .i64 0, .int .i64 1, .int .i64 0, .int .u8 7, .int .i64 0, .int .i64 0, .int .i64 0]) (ok := fun _ => True) (okp := fun _ => True) ?hr ?hp (fun _ hk => hk) trivial (Below.refl _ _) (Nat.le_refl _) (by simp) ?_; (case hd => rfl); (case hg => rfl); (case hr => first | (go_simp; done) | (go_simp; rfl)); (case hp => exact (Reps.c6 (show Kd.M k40 _ _ _ (⟨0, 0, 8, 0, 0, 0⟩ : S40) [.int .i64 0, .int .i64 0, .int .u8 8, .int .i64 0, .int .i64 0, .int .i64 0] from (k40_mkM _ _ _ (⟨0, 0, 8, 0, 0, 0⟩ : S40) )) (Reps.c6 (show Kd.M k40 _ _ _ (⟨0, 0, 14, 0, 0, 0⟩ : S40) [.int .i64 0, .int .i64 0, .int .u8 14, .int .i64 0, .int .i64 0, .int .i64 0] from (k40_mkM _ _ _ (⟨0, 0, 14, 0, 0, 0⟩ : S40) )) (Reps.c6 (show Kd.M k40 _ _ _ (⟨1, 0, 13, 0, 0, 0⟩ : S40) [.int .i64 1, .int .i64 0, .int .u8 13, .int .i64 0, .int .i64 0, .int .i64 0] from (k40_mkM _ _ _ (⟨1, 0, 13, 0, 0, 0⟩ : S40) )) (Reps.c6 (show Kd.M k40 _ _ _ (⟨1, 0, 7, 0, 0, 0⟩ : S40) [.int .i64 1, .int .i64 0, .int .u8 7, .int .i64 0, .int .i64 0, .int .i64 0] from (k40_mkM _ _ _ (⟨1, 0, 7, 0, 0, 0⟩ : S40) )) (Reps.none _ _)))))); intro v113 w37 ho38 hb hg_ hnew_; clear hg_ hnew_; (first | rw [← Ny112.out] at ho38 | (simp only [Int.reduceToNat] at ho38; rw [← Ny112.out] at ho38)); have n0_ := Aside0.mk (Kd.R_elder' (by (with_reducible repeat (first | apply Kd.R_alloc | apply Kd.R_drewN | apply Kd.R_drew)); exact HO108.out) (Kd.R_base ho38) hb); have n1_ := Aside0.mk (Kd.R_below (by (with_reducible repeat (first | apply Kd.R_alloc | apply Kd.R_drewN | apply Kd.R_drew)); exact HO111.out) hb); have n2_ := Aside0.mk (Kd.R_lower (Kd.R_new' ho38 (Kd.R_lt (by (with_reducible repeat (first | apply Kd.R_alloc | apply Kd.R_drewN | apply Kd.R_drew)); exact HO108.out))) (below_size (by repeat (first | (with_reducible first | exact HB.out | apply below_alloc | apply pw_below_drewN | apply below_drew1) | exact HB.out)))); have n3_ := Aside0.mk (below_step (by repeat (first | (with_reducible first | exact HB.out | apply below_alloc | apply pw_below_drewN | apply below_drew1) | exact HB.out)) hb); clear HO108; clear HO111; clear HB; have HO108 := n0_; have HO111 := n1_; have HO114 := n2_; have HB := n3_; clear n0_ n1_ n2_ n3_; clear hb ho38; obtain ⟨Ao39, co39, eo39⟩ := Kd.R_slice HO111.out; subst eo39))
    go_ret
    exact ⟨by first | rfl | (simp [errW_none, errW_some] <;> rfl) | (simp [*, errW_none, errW_some] <;> rfl), by repeat (first | (with_reducible first | exact HB.out | apply below_alloc | apply pw_below_drewN | apply below_drew1) | exact HB.out)⟩

/-! ### interlocklaw08_RaceReads: function 4 -/
mutual
def interlocklaw08_RaceReads.l0 : Nat → List Int → List Bool → List (S40) → Int → Option (Bool)
  | 0, _, _, _, _ => none
  | k + 1, x0, x1, x5, x6 => if x6 < (x0.length : Int) then (interlocklaw08_RaceReads.j1 k x0 x1 x5 x6 (decide (x6 < 20))) else (interlocklaw08_RaceReads.j1 k x0 x1 x5 x6 false)
def interlocklaw08_RaceReads.j1 : Nat → List Int → List Bool → List (S40) → Int → Bool → Option (Bool)
  | 0, _, _, _, _, _ => none
  | k + 1, x0, x1, x5, x6, x15 => if x15 = true then (if 0 ≤ x6 then (if x6 < (x0.length : Int) then (if x6 < (x1.length : Int) then (if rdOf false x1 x6 = true then ((some (([(⟨wrap64 (Int.tmod (rd x0 x6) 3), 0, 13, 0, 0, 0⟩ : S40), (⟨wrap64 (Int.tmod (rd x0 x6) 3), 0, 8, 0, 0, 0⟩ : S40), (⟨wrap64 (Int.tmod (rd x0 x6) 3), 0, 14, 0, 0, 0⟩ : S40)] : List (S40)) : List (S40))).bind fun y120 => (if x5.length + y120.length < 2932031007402 then (interlocklaw08_RaceReads.l0 k x0 x1 (x5 ++ y120) (wrap64 (x6 + 1))) else (none))) else ((some (([(⟨wrap64 (Int.tmod (rd x0 x6) 3), 0, 15, 0, 0, 0⟩ : S40), (⟨wrap64 (Int.tmod (rd x0 x6) 3), 0, 7, 0, 0, 0⟩ : S40), (⟨wrap64 (Int.tmod (rd x0 x6) 3), 0, 16, 0, 0, 0⟩ : S40)] : List (S40)) : List (S40))).bind fun y126 => (if x5.length + y126.length < 2932031007402 then (interlocklaw08_RaceReads.l0 k x0 x1 (x5 ++ y126) (wrap64 (x6 + 1))) else (none)))) else ((some (([(⟨wrap64 (Int.tmod (rd x0 x6) 3), 0, 15, 0, 0, 0⟩ : S40), (⟨wrap64 (Int.tmod (rd x0 x6) 3), 0, 7, 0, 0, 0⟩ : S40), (⟨wrap64 (Int.tmod (rd x0 x6) 3), 0, 16, 0, 0, 0⟩ : S40)] : List (S40)) : List (S40))).bind fun y132 => (if x5.length + y132.length < 2932031007402 then (interlocklaw08_RaceReads.l0 k x0 x1 (x5 ++ y132) (wrap64 (x6 + 1))) else (none)))) else (none)) else (none)) else ((interlocklaw08_known.f).bind fun t138 => (if t138 = true then ((race_Racy.f 0 0 1 ([] : List Int) 0 0 ([] : List (List (S25))) x5).bind fun t139 => (some (!t139))) else (some false)))
end
def interlocklaw08_RaceReads.f (k : Nat) (l0 : List Int) (l1 : List Bool) : Option (Bool) := interlocklaw08_RaceReads.l0 k l0 l1 ([] : List (S40)) 0
theorem interlocklaw08_RaceReads.mono_l : ∀ k, (∀ y0 y1 y2 y3, LeO (interlocklaw08_RaceReads.l0 k y0 y1 y2 y3) (interlocklaw08_RaceReads.l0 (k + 1) y0 y1 y2 y3)) ∧ (∀ y0 y1 y2 y3 y4, LeO (interlocklaw08_RaceReads.j1 k y0 y1 y2 y3 y4) (interlocklaw08_RaceReads.j1 (k + 1) y0 y1 y2 y3 y4))
  | 0 => ⟨fun _ _ _ _ r h => by simp [interlocklaw08_RaceReads.l0] at h, fun _ _ _ _ _ r h => by simp [interlocklaw08_RaceReads.j1] at h⟩
  | k + 1 => by
    obtain ⟨ih0, ih1⟩ := interlocklaw08_RaceReads.mono_l k
    refine ⟨?_, ?_⟩
    · intro y0 y1 y2 y3
      unfold interlocklaw08_RaceReads.l0
      repeat' first
      | (with_reducible exact ih0 _ _ _ _)
      | (with_reducible exact ih1 _ _ _ _ _)
      | (with_reducible exact LeO.refl _)
      | (with_reducible exact LeO.none _)
      | (with_reducible refine LeO.ite ?_ ?_)
      | (with_reducible refine LeO.bind ?_ (fun _ => ?_))
      | exact ih0 _ _ _ _
      | exact ih1 _ _ _ _ _
      | exact LeO.none _
      | refine LeO.ite ?_ ?_
      | refine LeO.bind ?_ (fun _ => ?_)
    · intro y0 y1 y2 y3 y4
      unfold interlocklaw08_RaceReads.j1
      repeat' first
      | (with_reducible exact ih0 _ _ _ _)
      | (with_reducible exact ih1 _ _ _ _ _)
      | (with_reducible exact LeO.refl _)
      | (with_reducible exact LeO.none _)
      | (with_reducible refine LeO.ite ?_ ?_)
      | (with_reducible refine LeO.bind ?_ (fun _ => ?_))
      | exact ih0 _ _ _ _
      | exact ih1 _ _ _ _ _
      | exact LeO.none _
      | refine LeO.ite ?_ ?_
      | refine LeO.bind ?_ (fun _ => ?_)
theorem interlocklaw08_RaceReads.mono : ∀ a0 a1 k, LeO (interlocklaw08_RaceReads.f k a0 a1) (interlocklaw08_RaceReads.f (k + 1) a0 a1) := by
  intro a0 a1 k
  obtain ⟨ih0, ih1⟩ := interlocklaw08_RaceReads.mono_l k
  unfold interlocklaw08_RaceReads.f
  repeat' first
      | (with_reducible exact ih0 _ _ _ _)
      | (with_reducible exact ih1 _ _ _ _ _)
      | (with_reducible exact LeO.refl _)
      | (with_reducible exact LeO.none _)
      | (with_reducible refine LeO.ite ?_ ?_)
      | (with_reducible refine LeO.bind ?_ (fun _ => ?_))
      | exact ih0 _ _ _ _
      | exact ih1 _ _ _ _ _
      | exact LeO.none _
      | refine LeO.ite ?_ ?_
      | refine LeO.bind ?_ (fun _ => ?_)
set_option maxHeartbeats 8000000 in
set_option maxRecDepth 100000 in
theorem interlocklaw08_RaceReads.calls (k : Nat) (A0 : Option Addr) (c0 : Nat) (l0 : List Int) (A1 : Option Addr) (c1 : Nat) (l1 : List Bool) (r : Bool) (w : World) (hr0 : Kd.C (Kd.int .u8) w A0 l0.length l0) (hc0 : l0.length ≤ c0) (hr1 : Kd.C Kd.bool w A1 l1.length l1) (hc1 : l1.length ≤ c1) (h : interlocklaw08_RaceReads.f k l0 l1 = some r) :
    Calls Try.prog 4 #[.slice A0 l0.length c0, .slice A1 l1.length c1] w fun e w' => e = .returned (.bool r) ∧ Below w.heap.size w w' := by
  have hu40 := Try.underlying40
  have hu29 := Try.underlying29
  have HR0 := Aside0.mk hr0
  have HC0 := Aside0.mk hc0
  clear hr0 hc0
  have HR1 := Aside0.mk hr1
  have HC1 := Aside0.mk hc1
  clear hr1 hc1
  have HB := Aside0.mk (Below.refl w.heap.size w)
  have H : (interlocklaw08_RaceReads.l0 k l0 l1 ([] : List (S40)) 0) = some r := h
  clear h
  have H' := Aside0.mk H
  clear H
  go_enter Try.func4, Try.ntmps4
  go_wp2
  go_loopg [5, 6] k (fun kq v5 v6 w' => ∃ (x5_1 : List (S40)) (x6_1 : Int), v6 = .int .i64 x6_1 ∧ Aside0 (interlocklaw08_RaceReads.l0 kq l0 l1 x5_1 x6_1 = some r) ∧ Aside0 (kq ≤ k) ∧ Aside0 (Kd.R k40 40 w' w.heap.size (fun _ => True) v5 x5_1) ∧ Aside0 (Below w.heap.size w w'))
  case atStart => exact ⟨(([] : List (S40))), (0), (by first | rfl | (simp; done) | (simp [*]; done)), H', ⟨Nat.le_refl _⟩, ⟨by first | exact Kd.R_nil _ _ _ _ _ | exact Kd.N_nil _ _ _ _ _ | exact Kd.V_nil _ _ _ _ _ | exact Kd.Q_nil _ _ _ _ _ | exact Kd.S_nil _ _ _ _ _⟩, ⟨by repeat (first | (with_reducible first | exact HB.out | apply below_alloc | apply pw_below_drewN | apply below_drew1) | exact HB.out)⟩⟩
  case round =>
    clear H'
    try clear c1
    try clear p2
    obtain ⟨x5_1, x6_1, rfl, HA, HK1, HO_5, HB⟩ := hrel
    cases gk with
    | zero => exact absurd HA.out (by simp [interlocklaw08_RaceReads.l0])
    | succ k1 =>
      have H := HA.out
      clear HA
      simp only [interlocklaw08_RaceReads.l0] at H
      have HC3 := Aside0.mk H
      clear H
      go_upto_region 3 with (fail)
      go_cut [15] (fun v15 wc => ∃ (kq : Nat) (x15_2 : Bool), v15 = .bool x15_2 ∧ Aside0 (interlocklaw08_RaceReads.j1 kq l0 l1 x5_1 x6_1 x15_2 = some r) ∧ Aside0 (kq ≤ k1) ∧ Aside0 (Kd.R k40 40 wc w.heap.size (fun _ => True) u5 x5_1) ∧ Aside0 (Below w.heap.size w wc))
      case first =>
        have H := HC3.out
        clear HC3
        by_cases c4 : x6_1 < (l0.length : Int)
        · rw [if_pos c4] at H
          have c4b0 : decide (x6_1 < (l0.length : Int)) = true := decide_eq_true c4
          clear c4
          (first | rw [c4b0] | (simp only [i64_w, i32_w]; rw [c4b0]) | skip)
          have H' := Aside0.mk H
          clear H
          go_wp2
          go_meet
          case rel => exact ⟨_, (decide (x6_1 < 20)), (by first | rfl | (simp; done) | (simp [*]; done)), H', ⟨by have := HK1.out; first | omega | exact Nat.le_refl _⟩, ⟨by (with_reducible repeat (first | apply Kd.R_alloc | apply Kd.R_drewN | apply Kd.R_drew)); exact HO_5.out⟩, ⟨by repeat (first | (with_reducible first | exact HB.out | apply below_alloc | apply pw_below_drewN | apply below_drew1) | exact HB.out)⟩⟩
        · rw [if_neg c4] at H
          have c4b0 : decide (x6_1 < (l0.length : Int)) = false := decide_eq_false c4
          clear c4
          (first | rw [c4b0] | (simp only [i64_w, i32_w]; rw [c4b0]) | skip)
          have H' := Aside0.mk H
          clear H
          go_wp2
          go_meet
          case rel => exact ⟨_, (false), (by first | rfl | (simp; done) | (simp [*]; done)), H', ⟨by have := HK1.out; first | omega | exact Nat.le_refl _⟩, ⟨by (with_reducible repeat (first | apply Kd.R_alloc | apply Kd.R_drewN | apply Kd.R_drew)); exact HO_5.out⟩, ⟨by repeat (first | (with_reducible first | exact HB.out | apply below_alloc | apply pw_below_drewN | apply below_drew1) | exact HB.out)⟩⟩
      case rest =>
        clear HC3
        try clear c1
        try clear p2
        try clear c4
        try clear c4b0
        try clear p2
        obtain ⟨kq, x15_2, rfl, HA, HJ2, HO_5, HB⟩ := hcut
        cases kq with
        | zero => exact absurd HA.out (by simp [interlocklaw08_RaceReads.j1])
        | succ kj2 =>
          have H := HA.out
          clear HA
          simp only [interlocklaw08_RaceReads.j1] at H
          by_cases c5 : x15_2 = true
          · subst c5
            have H1 : (if 0 ≤ x6_1 then (if x6_1 < (l0.length : Int) then (if x6_1 < (l1.length : Int) then (if rdOf false l1 x6_1 = true then ((some (([(⟨wrap64 (Int.tmod (rd l0 x6_1) 3), 0, 13, 0, 0, 0⟩ : S40), (⟨wrap64 (Int.tmod (rd l0 x6_1) 3), 0, 8, 0, 0, 0⟩ : S40), (⟨wrap64 (Int.tmod (rd l0 x6_1) 3), 0, 14, 0, 0, 0⟩ : S40)] : List (S40)) : List (S40))).bind fun y120 => (if x5_1.length + y120.length < 2932031007402 then (interlocklaw08_RaceReads.l0 kj2 l0 l1 (x5_1 ++ y120) (wrap64 (x6_1 + 1))) else (none))) else ((some (([(⟨wrap64 (Int.tmod (rd l0 x6_1) 3), 0, 15, 0, 0, 0⟩ : S40), (⟨wrap64 (Int.tmod (rd l0 x6_1) 3), 0, 7, 0, 0, 0⟩ : S40), (⟨wrap64 (Int.tmod (rd l0 x6_1) 3), 0, 16, 0, 0, 0⟩ : S40)] : List (S40)) : List (S40))).bind fun y126 => (if x5_1.length + y126.length < 2932031007402 then (interlocklaw08_RaceReads.l0 kj2 l0 l1 (x5_1 ++ y126) (wrap64 (x6_1 + 1))) else (none)))) else ((some (([(⟨wrap64 (Int.tmod (rd l0 x6_1) 3), 0, 15, 0, 0, 0⟩ : S40), (⟨wrap64 (Int.tmod (rd l0 x6_1) 3), 0, 7, 0, 0, 0⟩ : S40), (⟨wrap64 (Int.tmod (rd l0 x6_1) 3), 0, 16, 0, 0, 0⟩ : S40)] : List (S40)) : List (S40))).bind fun y132 => (if x5_1.length + y132.length < 2932031007402 then (interlocklaw08_RaceReads.l0 kj2 l0 l1 (x5_1 ++ y132) (wrap64 (x6_1 + 1))) else (none)))) else (none)) else (none)) = some r := by rw [if_pos rfl] at H; exact H
            clear H
            have H := H1
            clear H1
            by_cases c6 : 0 ≤ x6_1
            · rw [if_pos c6] at H
              have c6b0 : decide (0 ≤ x6_1) = true := decide_eq_true c6
              clear c6
              by_cases c7 : x6_1 < (l0.length : Int)
              · rw [if_pos c7] at H
                have c7b0 : decide (x6_1 < (l0.length : Int)) = true := decide_eq_true c7
                clear c7
                by_cases c8 : x6_1 < (l1.length : Int)
                · rw [if_pos c8] at H
                  have c8b0 : decide (x6_1 < (l1.length : Int)) = true := decide_eq_true c8
                  clear c8
                  obtain ⟨bq9, hbq9⟩ : ∃ b_ : Bool, b_ = (rdOf false l1 x6_1) := ⟨_, rfl⟩
                  replace H : (if bq9 = true then ((some (([(⟨wrap64 (Int.tmod (rd l0 x6_1) 3), 0, 13, 0, 0, 0⟩ : S40), (⟨wrap64 (Int.tmod (rd l0 x6_1) 3), 0, 8, 0, 0, 0⟩ : S40), (⟨wrap64 (Int.tmod (rd l0 x6_1) 3), 0, 14, 0, 0, 0⟩ : S40)] : List (S40)) : List (S40))).bind fun y120 => (if x5_1.length + y120.length < 2932031007402 then (interlocklaw08_RaceReads.l0 kj2 l0 l1 (x5_1 ++ y120) (wrap64 (x6_1 + 1))) else (none))) else ((some (([(⟨wrap64 (Int.tmod (rd l0 x6_1) 3), 0, 15, 0, 0, 0⟩ : S40), (⟨wrap64 (Int.tmod (rd l0 x6_1) 3), 0, 7, 0, 0, 0⟩ : S40), (⟨wrap64 (Int.tmod (rd l0 x6_1) 3), 0, 16, 0, 0, 0⟩ : S40)] : List (S40)) : List (S40))).bind fun y126 => (if x5_1.length + y126.length < 2932031007402 then (interlocklaw08_RaceReads.l0 kj2 l0 l1 (x5_1 ++ y126) (wrap64 (x6_1 + 1))) else (none)))) = some r := by rw [← hbq9] at H; exact H
                  have Nbq9 := Aside0.mk hbq9
                  clear hbq9
                  by_cases c10 : bq9 = true
                  · subst c10
                    have H1 : ((some (([(⟨wrap64 (Int.tmod (rd l0 x6_1) 3), 0, 13, 0, 0, 0⟩ : S40), (⟨wrap64 (Int.tmod (rd l0 x6_1) 3), 0, 8, 0, 0, 0⟩ : S40), (⟨wrap64 (Int.tmod (rd l0 x6_1) 3), 0, 14, 0, 0, 0⟩ : S40)] : List (S40)) : List (S40))).bind fun y120 => (if x5_1.length + y120.length < 2932031007402 then (interlocklaw08_RaceReads.l0 kj2 l0 l1 (x5_1 ++ y120) (wrap64 (x6_1 + 1))) else (none))) = some r := by rw [if_pos rfl] at H; exact H
                    clear H
                    have H := H1
                    clear H1
                    obtain ⟨y120, hy120⟩ : ∃ y_ : List (S40), y_ = (([(⟨wrap64 (Int.tmod (rd l0 x6_1) 3), 0, 13, 0, 0, 0⟩ : S40), (⟨wrap64 (Int.tmod (rd l0 x6_1) 3), 0, 8, 0, 0, 0⟩ : S40), (⟨wrap64 (Int.tmod (rd l0 x6_1) 3), 0, 14, 0, 0, 0⟩ : S40)] : List (S40))) := ⟨_, rfl⟩
                    replace H : (if x5_1.length + y120.length < 2932031007402 then (interlocklaw08_RaceReads.l0 kj2 l0 l1 (x5_1 ++ y120) (wrap64 (x6_1 + 1))) else (none)) = some r := by first | (rw [hy120]; with_reducible exact H) | (have H2_ := (Option.bind_some _ _).symm.trans H; rw [hy120]; with_reducible exact H2_) | (have H2_ := (Option.bind_some _ _).symm.trans H; with_reducible exact H2_) | with_reducible exact H | (rw [hy120]; exact H) | exact H
                    have Ny120 := Aside0.mk hy120
                    clear hy120
                    by_cases c11 : x5_1.length + y120.length < 2932031007402
                    · rw [if_pos c11] at H
                      have LMc11 := Aside0.mk c11
                      clear c11
                      obtain ⟨y123, hy123⟩ : ∃ y_ : List (S40), y_ = (x5_1 ++ y120) := ⟨_, rfl⟩
                      replace H : (interlocklaw08_RaceReads.l0 kj2 l0 l1 y123 (wrap64 (x6_1 + 1))) = some r := by first | (rw [hy123]; with_reducible exact H) | (have H2_ := (Option.bind_some _ _).symm.trans H; rw [hy123]; with_reducible exact H2_) | (have H2_ := (Option.bind_some _ _).symm.trans H; with_reducible exact H2_) | with_reducible exact H | (rw [hy123]; exact H) | exact H
                      have Ny123 := Aside0.mk hy123
                      clear hy123
                      have H' := Aside0.mk H
                      clear H
                      have p118 : 0 ≤ (x6_1 : Int) := of_decide_eq_true (by first | (with_reducible assumption) | assumption)
                      have q118 : x6_1 < (l0.length : Int) := of_decide_eq_true (by first | (with_reducible assumption) | assumption)
                      obtain ⟨ad118, e118, hx118_0⟩ := Kd.at_int HR0.out x6_1 p118 q118
                      cases e118
                      replace hx118_0 := (HB.out.cell (World.block_lt_of_cell? w _ hx118_0)).trans hx118_0
                      replace p118 := eq_true p118
                      replace q118 := eq_true q118
                      have p119 : 0 ≤ (x6_1 : Int) := of_decide_eq_true (by first | (with_reducible assumption) | assumption)
                      have q119 : x6_1 < (l1.length : Int) := of_decide_eq_true (by first | (with_reducible assumption) | assumption)
                      obtain ⟨ad119, e119, hx119_0⟩ := Kd.at_bool HR1.out x6_1 p119 q119
                      (try rw [← Nbq9.out] at hx119_0)
                      cases e119
                      replace hx119_0 := (HB.out.cell (World.block_lt_of_cell? w _ hx119_0)).trans hx119_0
                      replace p119 := eq_true p119
                      replace q119 := eq_true q119
                      go_wp2_with (first | ((with_reducible refine gate_dst (N := 41) rfl ?_); refine Kd.R_lit k40 _ 40 ?hg (N := 41) ?hd (xs := ([(⟨wrap64 (Int.tmod (rd l0 x6_1) 3), 0, 13, 0, 0, 0⟩ : S40), (⟨wrap64 (Int.tmod (rd l0 x6_1) 3), 0, 8, 0, 0, 0⟩ : S40), (⟨wrap64 (Int.tmod (rd l0 x6_1) 3), 0, 14, 0, 0, 0⟩ : S40)] : List (S40))) (inner := [.int .i64 (wrap64 (Int.tmod (rd l0 x6_1) 3)), .int .i64 0, .int .u8 13, .int .i64 0, .int .i64 0, .int .i64 0, .int .i64 (wrap64 (Int.tmod (rd l0 x6_1) 3)), .int .i64 0, .int .u8 8, .int .i64 0, .int .i64 0, .int .i64 0, .int .i64 (wrap64 (Int.tmod (rd l0 x6_1) 3)), .int .i64 0, .int .u8 14, .int .i64 0, .int .i64 0, .int .i64 0]) (ok := fun _ => True) (okp := fun _ => True) ?hr ?hp (fun _ hk => hk) trivial (Below.refl _ _) (Nat.le_refl _) (by simp) ?_; (case hd => rfl); (case hg => rfl); (case hr => first | (go_simp; done) | (go_simp; rfl)); (case hp => exact (Reps.c6 (show Kd.M k40 _ _ _ (⟨wrap64 (Int.tmod (rd l0 x6_1) 3), 0, 13, 0, 0, 0⟩ : S40) [.int .i64 (wrap64 (Int.tmod (rd l0 x6_1) 3)), .int .i64 0, .int .u8 13, .int .i64 0, .int .i64 0, .int .i64 0] from (k40_mkM _ _ _ (⟨wrap64 (Int.tmod (rd l0 x6_1) 3), 0, 13, 0, 0, 0⟩ : S40) )) (Reps.c6 (show Kd.M k40 _ _ _ (⟨wrap64 (Int.tmod (rd l0 x6_1) 3), 0, 8, 0, 0, 0⟩ : S40) [.int .i64 (wrap64 (Int.tmod (rd l0 x6_1) 3)), .int .i64 0, .int .u8 8, .int .i64 0, .int .i64 0, .int .i64 0] from (k40_mkM _ _ _ (⟨wrap64 (Int.tmod (rd l0 x6_1) 3), 0, 8, 0, 0, 0⟩ : S40) )) (Reps.c6 (show Kd.M k40 _ _ _ (⟨wrap64 (Int.tmod (rd l0 x6_1) 3), 0, 14, 0, 0, 0⟩ : S40) [.int .i64 (wrap64 (Int.tmod (rd l0 x6_1) 3)), .int .i64 0, .int .u8 14, .int .i64 0, .int .i64 0, .int .i64 0] from (k40_mkM _ _ _ (⟨wrap64 (Int.tmod (rd l0 x6_1) 3), 0, 14, 0, 0, 0⟩ : S40) )) (Reps.none _ _))))); intro v121 w12 ho13 hb hg_ hnew_; clear hg_ hnew_; (first | rw [← Ny120.out] at ho13 | (simp only [Int.reduceToNat] at ho13; rw [← Ny120.out] at ho13)); have n0_ := Aside0.mk (Kd.R_elder' (by (with_reducible repeat (first | apply Kd.R_alloc | apply Kd.R_drewN | apply Kd.R_drew)); exact HO_5.out) (Kd.R_base ho13) hb); have n1_ := Aside0.mk (Kd.R_lower (Kd.R_new' ho13 (Kd.R_lt (by (with_reducible repeat (first | apply Kd.R_alloc | apply Kd.R_drewN | apply Kd.R_drew)); exact HO_5.out))) (below_size (by repeat (first | (with_reducible first | exact HB.out | apply below_alloc | apply pw_below_drewN | apply below_drew1) | exact HB.out)))); have n2_ := Aside0.mk (below_step (by repeat (first | (with_reducible first | exact HB.out | apply below_alloc | apply pw_below_drewN | apply below_drew1) | exact HB.out)) hb); clear HO_5; clear HB; have HO_5 := n0_; have HO122 := n1_; have HB := n2_; clear n0_ n1_ n2_; clear hb ho13; obtain ⟨Ao15, co15, eo15⟩ := Kd.R_slice HO122.out; subst eo15) | ((with_reducible refine gate_builtin (b := .append) (xs := #[.tmp 34, .tmp 41]) rfl ?_); at_builtin; refine Kd.R_append_rows k40 (w0 := w) w.heap.size rfl (.tmp 34) (.tmp 41) 30 40 (.agg #[(.int .i64 0), (.int .i64 0), (.int .u8 0), (.int .i64 0), (.int .i64 0), (.int .i64 0)]) 48 rfl Try.underlying30 info40 rfl (by decide) (by omega) u5 x5_1 y120 _ _ _ (fun k_ => some k_ ≠ (.slice Ao15 y120.length co15 : Value).ownBlock) (fun _ => False) rfl rfl ?aO ?aR (fun _ _ h => h) (fun _ h => h.elim) ?aF ?aB ?aS ?aL ?_; (case aR => repeat (first | exact (Kd.R_reads' HO122.out).2.2 | (with_reducible refine Kd.C_alloc ?_ _) | (with_reducible refine Kd.C_drewN ?_ _) | (with_reducible refine Kd.C_drew ?_))); (case aB => exact (by repeat (first | (with_reducible first | exact HB.out | apply below_alloc | apply pw_below_drewN | apply below_drew1) | exact HB.out))); (case aF => exact (fun k_ hk => Kd.fresh' (Kd.R_lt (by (with_reducible repeat (first | apply Kd.R_alloc | apply Kd.R_drewN | apply Kd.R_drew)); exact HO122.out)) k_ hk)); (case aO => exact (by (with_reducible repeat (first | apply Kd.R_alloc | apply Kd.R_drewN | apply Kd.R_drew)); exact Kd.R_mono HO_5.out (fun _ hk => hk.2))); (case aS => exact (below_size (by repeat (first | (with_reducible first | exact HB.out | apply below_alloc | apply pw_below_drewN | apply below_drew1) | exact HB.out)))); (case aL => have := LMc11.out; omega); intro v124 w14 ho hb hg hat; rw [← Ny123.out] at ho; have n0_ := Aside0.mk (Kd.R_after (ok := (fun _ => True)) (by (with_reducible repeat (first | apply Kd.R_alloc | apply Kd.R_drewN | apply Kd.R_drew)); exact HO122.out) hg hat); have n1_ := Aside0.mk (hb); have n2_ := Aside0.mk (ho); clear HO122; clear HB; clear HO_5; have HO122 := n0_; have HB := n1_; have HO125 := n2_; clear n0_ n1_ n2_; clear ho hb hg hat))
                      go_roundg kj2
                      case measure => have := HK1.out; have := HJ2.out; omega
                      case rel => exact ⟨(y123), (wrap64 (x6_1 + 1)), (by first | rfl | (simp; done) | (simp [*]; done)), H', ⟨by have := HK1.out; have := HJ2.out; omega⟩, ⟨by (with_reducible repeat (first | apply Kd.R_alloc | apply Kd.R_drewN | apply Kd.R_drew)); exact Kd.R_mono HO125.out (fun _ hk => trivial)⟩, ⟨by repeat (first | (with_reducible first | exact HB.out | apply below_alloc | apply pw_below_drewN | apply below_drew1) | exact HB.out)⟩⟩
                    · rw [if_neg c11] at H
                      exact absurd H (by simp)
                  · replace c10 := Bool.eq_false_iff.mpr c10
                    subst c10
                    have H1 : ((some (([(⟨wrap64 (Int.tmod (rd l0 x6_1) 3), 0, 15, 0, 0, 0⟩ : S40), (⟨wrap64 (Int.tmod (rd l0 x6_1) 3), 0, 7, 0, 0, 0⟩ : S40), (⟨wrap64 (Int.tmod (rd l0 x6_1) 3), 0, 16, 0, 0, 0⟩ : S40)] : List (S40)) : List (S40))).bind fun y126 => (if x5_1.length + y126.length < 2932031007402 then (interlocklaw08_RaceReads.l0 kj2 l0 l1 (x5_1 ++ y126) (wrap64 (x6_1 + 1))) else (none))) = some r := by rw [if_neg (show ¬ (false = true) by decide)] at H; exact H
                    clear H
                    have H := H1
                    clear H1
                    obtain ⟨y126, hy126⟩ : ∃ y_ : List (S40), y_ = (([(⟨wrap64 (Int.tmod (rd l0 x6_1) 3), 0, 15, 0, 0, 0⟩ : S40), (⟨wrap64 (Int.tmod (rd l0 x6_1) 3), 0, 7, 0, 0, 0⟩ : S40), (⟨wrap64 (Int.tmod (rd l0 x6_1) 3), 0, 16, 0, 0, 0⟩ : S40)] : List (S40))) := ⟨_, rfl⟩
                    replace H : (if x5_1.length + y126.length < 2932031007402 then (interlocklaw08_RaceReads.l0 kj2 l0 l1 (x5_1 ++ y126) (wrap64 (x6_1 + 1))) else (none)) = some r := by first | (rw [hy126]; with_reducible exact H) | (have H2_ := (Option.bind_some _ _).symm.trans H; rw [hy126]; with_reducible exact H2_) | (have H2_ := (Option.bind_some _ _).symm.trans H; with_reducible exact H2_) | with_reducible exact H | (rw [hy126]; exact H) | exact H
                    have Ny126 := Aside0.mk hy126
                    clear hy126
                    by_cases c16 : x5_1.length + y126.length < 2932031007402
                    · rw [if_pos c16] at H
                      have LMc16 := Aside0.mk c16
                      clear c16
                      obtain ⟨y129, hy129⟩ : ∃ y_ : List (S40), y_ = (x5_1 ++ y126) := ⟨_, rfl⟩
                      replace H : (interlocklaw08_RaceReads.l0 kj2 l0 l1 y129 (wrap64 (x6_1 + 1))) = some r := by first | (rw [hy129]; with_reducible exact H) | (have H2_ := (Option.bind_some _ _).symm.trans H; rw [hy129]; with_reducible exact H2_) | (have H2_ := (Option.bind_some _ _).symm.trans H; with_reducible exact H2_) | with_reducible exact H | (rw [hy129]; exact H) | exact H
                      have Ny129 := Aside0.mk hy129
                      clear hy129
                      have H' := Aside0.mk H
                      clear H
                      have p118 : 0 ≤ (x6_1 : Int) := of_decide_eq_true (by first | (with_reducible assumption) | assumption)
                      have q118 : x6_1 < (l0.length : Int) := of_decide_eq_true (by first | (with_reducible assumption) | assumption)
                      obtain ⟨ad118, e118, hx118_0⟩ := Kd.at_int HR0.out x6_1 p118 q118
                      cases e118
                      replace hx118_0 := (HB.out.cell (World.block_lt_of_cell? w _ hx118_0)).trans hx118_0
                      replace p118 := eq_true p118
                      replace q118 := eq_true q118
                      have p119 : 0 ≤ (x6_1 : Int) := of_decide_eq_true (by first | (with_reducible assumption) | assumption)
                      have q119 : x6_1 < (l1.length : Int) := of_decide_eq_true (by first | (with_reducible assumption) | assumption)
                      obtain ⟨ad119, e119, hx119_0⟩ := Kd.at_bool HR1.out x6_1 p119 q119
                      (try rw [← Nbq9.out] at hx119_0)
                      cases e119
                      replace hx119_0 := (HB.out.cell (World.block_lt_of_cell? w _ hx119_0)).trans hx119_0
                      replace p119 := eq_true p119
                      replace q119 := eq_true q119
                      go_wp2_with (first | ((with_reducible refine gate_dst (N := 50) rfl ?_); refine Kd.R_lit k40 _ 40 ?hg (N := 50) ?hd (xs := ([(⟨wrap64 (Int.tmod (rd l0 x6_1) 3), 0, 15, 0, 0, 0⟩ : S40), (⟨wrap64 (Int.tmod (rd l0 x6_1) 3), 0, 7, 0, 0, 0⟩ : S40), (⟨wrap64 (Int.tmod (rd l0 x6_1) 3), 0, 16, 0, 0, 0⟩ : S40)] : List (S40))) (inner := [.int .i64 (wrap64 (Int.tmod (rd l0 x6_1) 3)), .int .i64 0, .int .u8 15, .int .i64 0, .int .i64 0, .int .i64 0, .int .i64 (wrap64 (Int.tmod (rd l0 x6_1) 3)), .int .i64 0, .int .u8 7, .int .i64 0, .int .i64 0, .int .i64 0, .int .i64 (wrap64 (Int.tmod (rd l0 x6_1) 3)), .int .i64 0, .int .u8 16, .int .i64 0, .int .i64 0, .int .i64 0]) (ok := fun _ => True) (okp := fun _ => True) ?hr ?hp (fun _ hk => hk) trivial (Below.refl _ _) (Nat.le_refl _) (by simp) ?_; (case hd => rfl); (case hg => rfl); (case hr => first | (go_simp; done) | (go_simp; rfl)); (case hp => exact (Reps.c6 (show Kd.M k40 _ _ _ (⟨wrap64 (Int.tmod (rd l0 x6_1) 3), 0, 15, 0, 0, 0⟩ : S40) [.int .i64 (wrap64 (Int.tmod (rd l0 x6_1) 3)), .int .i64 0, .int .u8 15, .int .i64 0, .int .i64 0, .int .i64 0] from (k40_mkM _ _ _ (⟨wrap64 (Int.tmod (rd l0 x6_1) 3), 0, 15, 0, 0, 0⟩ : S40) )) (Reps.c6 (show Kd.M k40 _ _ _ (⟨wrap64 (Int.tmod (rd l0 x6_1) 3), 0, 7, 0, 0, 0⟩ : S40) [.int .i64 (wrap64 (Int.tmod (rd l0 x6_1) 3)), .int .i64 0, .int .u8 7, .int .i64 0, .int .i64 0, .int .i64 0] from (k40_mkM _ _ _ (⟨wrap64 (Int.tmod (rd l0 x6_1) 3), 0, 7, 0, 0, 0⟩ : S40) )) (Reps.c6 (show Kd.M k40 _ _ _ (⟨wrap64 (Int.tmod (rd l0 x6_1) 3), 0, 16, 0, 0, 0⟩ : S40) [.int .i64 (wrap64 (Int.tmod (rd l0 x6_1) 3)), .int .i64 0, .int .u8 16, .int .i64 0, .int .i64 0, .int .i64 0] from (k40_mkM _ _ _ (⟨wrap64 (Int.tmod (rd l0 x6_1) 3), 0, 16, 0, 0, 0⟩ : S40) )) (Reps.none _ _))))); intro v127 w17 ho18 hb hg_ hnew_; clear hg_ hnew_; (first | rw [← Ny126.out] at ho18 | (simp only [Int.reduceToNat] at ho18; rw [← Ny126.out] at ho18)); have n0_ := Aside0.mk (Kd.R_elder' (by (with_reducible repeat (first | apply Kd.R_alloc | apply Kd.R_drewN | apply Kd.R_drew)); exact HO_5.out) (Kd.R_base ho18) hb); have n1_ := Aside0.mk (Kd.R_lower (Kd.R_new' ho18 (Kd.R_lt (by (with_reducible repeat (first | apply Kd.R_alloc | apply Kd.R_drewN | apply Kd.R_drew)); exact HO_5.out))) (below_size (by repeat (first | (with_reducible first | exact HB.out | apply below_alloc | apply pw_below_drewN | apply below_drew1) | exact HB.out)))); have n2_ := Aside0.mk (below_step (by repeat (first | (with_reducible first | exact HB.out | apply below_alloc | apply pw_below_drewN | apply below_drew1) | exact HB.out)) hb); clear HO_5; clear HB; have HO_5 := n0_; have HO128 := n1_; have HB := n2_; clear n0_ n1_ n2_; clear hb ho18; obtain ⟨Ao20, co20, eo20⟩ := Kd.R_slice HO128.out; subst eo20) | ((with_reducible refine gate_builtin (b := .append) (xs := #[.tmp 43, .tmp 50]) rfl ?_); at_builtin; refine Kd.R_append_rows k40 (w0 := w) w.heap.size rfl (.tmp 43) (.tmp 50) 30 40 (.agg #[(.int .i64 0), (.int .i64 0), (.int .u8 0), (.int .i64 0), (.int .i64 0), (.int .i64 0)]) 48 rfl Try.underlying30 info40 rfl (by decide) (by omega) u5 x5_1 y126 _ _ _ (fun k_ => some k_ ≠ (.slice Ao20 y126.length co20 : Value).ownBlock) (fun _ => False) rfl rfl ?aO ?aR (fun _ _ h => h) (fun _ h => h.elim) ?aF ?aB ?aS ?aL ?_; (case aR => repeat (first | exact (Kd.R_reads' HO128.out).2.2 | (with_reducible refine Kd.C_alloc ?_ _) | (with_reducible refine Kd.C_drewN ?_ _) | (with_reducible refine Kd.C_drew ?_))); (case aB => exact (by repeat (first | (with_reducible first | exact HB.out | apply below_alloc | apply pw_below_drewN | apply below_drew1) | exact HB.out))); (case aF => exact (fun k_ hk => Kd.fresh' (Kd.R_lt (by (with_reducible repeat (first | apply Kd.R_alloc | apply Kd.R_drewN | apply Kd.R_drew)); exact HO128.out)) k_ hk)); (case aO => exact (by (with_reducible repeat (first | apply Kd.R_alloc | apply Kd.R_drewN | apply Kd.R_drew)); exact Kd.R_mono HO_5.out (fun _ hk => hk.2))); (case aS => exact (below_size (by repeat (first | (with_reducible first | exact HB.out | apply below_alloc | apply pw_below_drewN | apply below_drew1) | exact HB.out)))); (case aL => have := LMc16.out; omega); intro v130 w19 ho hb hg hat; rw [← Ny129.out] at ho; have n0_ := Aside0.mk (Kd.R_after (ok := (fun _ => True)) (by (with_reducible repeat (first | apply Kd.R_alloc | apply Kd.R_drewN | apply Kd.R_drew)); exact HO128.out) hg hat); have n1_ := Aside0.mk (hb); have n2_ := Aside0.mk (ho); clear HO128; clear HB; clear HO_5; have HO128 := n0_; have HB := n1_; have HO131 := n2_; clear n0_ n1_ n2_; clear ho hb hg hat))
                      go_roundg kj2
                      case measure => have := HK1.out; have := HJ2.out; omega
                      case rel => exact ⟨(y129), (wrap64 (x6_1 + 1)), (by first | rfl | (simp; done) | (simp [*]; done)), H', ⟨by have := HK1.out; have := HJ2.out; omega⟩, ⟨by (with_reducible repeat (first | apply Kd.R_alloc | apply Kd.R_drewN | apply Kd.R_drew)); exact Kd.R_mono HO131.out (fun _ hk => trivial)⟩, ⟨by repeat (first | (with_reducible first | exact HB.out | apply below_alloc | apply pw_below_drewN | apply below_drew1) | exact HB.out)⟩⟩
                    · rw [if_neg c16] at H
                      exact absurd H (by simp)
                · rw [if_neg c8] at H
                  have c8b0 : decide (x6_1 < (l1.length : Int)) = false := decide_eq_false c8
                  clear c8
                  obtain ⟨y132, hy132⟩ : ∃ y_ : List (S40), y_ = (([(⟨wrap64 (Int.tmod (rd l0 x6_1) 3), 0, 15, 0, 0, 0⟩ : S40), (⟨wrap64 (Int.tmod (rd l0 x6_1) 3), 0, 7, 0, 0, 0⟩ : S40), (⟨wrap64 (Int.tmod (rd l0 x6_1) 3), 0, 16, 0, 0, 0⟩ : S40)] : List (S40))) := ⟨_, rfl⟩
                  replace H : (if x5_1.length + y132.length < 2932031007402 then (interlocklaw08_RaceReads.l0 kj2 l0 l1 (x5_1 ++ y132) (wrap64 (x6_1 + 1))) else (none)) = some r := by first | (rw [hy132]; with_reducible exact H) | (have H2_ := (Option.bind_some _ _).symm.trans H; rw [hy132]; with_reducible exact H2_) | (have H2_ := (Option.bind_some _ _).symm.trans H; with_reducible exact H2_) | with_reducible exact H | (rw [hy132]; exact H) | exact H
                  have Ny132 := Aside0.mk hy132
                  clear hy132
                  by_cases c21 : x5_1.length + y132.length < 2932031007402
                  · rw [if_pos c21] at H
                    have LMc21 := Aside0.mk c21
                    clear c21
                    obtain ⟨y135, hy135⟩ : ∃ y_ : List (S40), y_ = (x5_1 ++ y132) := ⟨_, rfl⟩
                    replace H : (interlocklaw08_RaceReads.l0 kj2 l0 l1 y135 (wrap64 (x6_1 + 1))) = some r := by first | (rw [hy135]; with_reducible exact H) | (have H2_ := (Option.bind_some _ _).symm.trans H; rw [hy135]; with_reducible exact H2_) | (have H2_ := (Option.bind_some _ _).symm.trans H; with_reducible exact H2_) | with_reducible exact H | (rw [hy135]; exact H) | exact H
                    have Ny135 := Aside0.mk hy135
                    clear hy135
                    have H' := Aside0.mk H
                    clear H
                    have p118 : 0 ≤ (x6_1 : Int) := of_decide_eq_true (by first | (with_reducible assumption) | assumption)
                    have q118 : x6_1 < (l0.length : Int) := of_decide_eq_true (by first | (with_reducible assumption) | assumption)
                    obtain ⟨ad118, e118, hx118_0⟩ := Kd.at_int HR0.out x6_1 p118 q118
                    cases e118
                    replace hx118_0 := (HB.out.cell (World.block_lt_of_cell? w _ hx118_0)).trans hx118_0
                    replace p118 := eq_true p118
                    replace q118 := eq_true q118
                    go_wp2_with (first | ((with_reducible refine gate_dst (N := 50) rfl ?_); refine Kd.R_lit k40 _ 40 ?hg (N := 50) ?hd (xs := ([(⟨wrap64 (Int.tmod (rd l0 x6_1) 3), 0, 15, 0, 0, 0⟩ : S40), (⟨wrap64 (Int.tmod (rd l0 x6_1) 3), 0, 7, 0, 0, 0⟩ : S40), (⟨wrap64 (Int.tmod (rd l0 x6_1) 3), 0, 16, 0, 0, 0⟩ : S40)] : List (S40))) (inner := [.int .i64 (wrap64 (Int.tmod (rd l0 x6_1) 3)), .int .i64 0, .int .u8 15, .int .i64 0, .int .i64 0, .int .i64 0, .int .i64 (wrap64 (Int.tmod (rd l0 x6_1) 3)), .int .i64 0, .int .u8 7, .int .i64 0, .int .i64 0, .int .i64 0, .int .i64 (wrap64 (Int.tmod (rd l0 x6_1) 3)), .int .i64 0, .int .u8 16, .int .i64 0, .int .i64 0, .int .i64 0]) (ok := fun _ => True) (okp := fun _ => True) ?hr ?hp (fun _ hk => hk) trivial (Below.refl _ _) (Nat.le_refl _) (by simp) ?_; (case hd => rfl); (case hg => rfl); (case hr => first | (go_simp; done) | (go_simp; rfl)); (case hp => exact (Reps.c6 (show Kd.M k40 _ _ _ (⟨wrap64 (Int.tmod (rd l0 x6_1) 3), 0, 15, 0, 0, 0⟩ : S40) [.int .i64 (wrap64 (Int.tmod (rd l0 x6_1) 3)), .int .i64 0, .int .u8 15, .int .i64 0, .int .i64 0, .int .i64 0] from (k40_mkM _ _ _ (⟨wrap64 (Int.tmod (rd l0 x6_1) 3), 0, 15, 0, 0, 0⟩ : S40) )) (Reps.c6 (show Kd.M k40 _ _ _ (⟨wrap64 (Int.tmod (rd l0 x6_1) 3), 0, 7, 0, 0, 0⟩ : S40) [.int .i64 (wrap64 (Int.tmod (rd l0 x6_1) 3)), .int .i64 0, .int .u8 7, .int .i64 0, .int .i64 0, .int .i64 0] from (k40_mkM _ _ _ (⟨wrap64 (Int.tmod (rd l0 x6_1) 3), 0, 7, 0, 0, 0⟩ : S40) )) (Reps.c6 (show Kd.M k40 _ _ _ (⟨wrap64 (Int.tmod (rd l0 x6_1) 3), 0, 16, 0, 0, 0⟩ : S40) [.int .i64 (wrap64 (Int.tmod (rd l0 x6_1) 3)), .int .i64 0, .int .u8 16, .int .i64 0, .int .i64 0, .int .i64 0] from (k40_mkM _ _ _ (⟨wrap64 (Int.tmod (rd l0 x6_1) 3), 0, 16, 0, 0, 0⟩ : S40) )) (Reps.none _ _))))); intro v133 w22 ho23 hb hg_ hnew_; clear hg_ hnew_; (first | rw [← Ny132.out] at ho23 | (simp only [Int.reduceToNat] at ho23; rw [← Ny132.out] at ho23)); have n0_ := Aside0.mk (Kd.R_elder' (by (with_reducible repeat (first | apply Kd.R_alloc | apply Kd.R_drewN | apply Kd.R_drew)); exact HO_5.out) (Kd.R_base ho23) hb); have n1_ := Aside0.mk (Kd.R_lower (Kd.R_new' ho23 (Kd.R_lt (by (with_reducible repeat (first | apply Kd.R_alloc | apply Kd.R_drewN | apply Kd.R_drew)); exact HO_5.out))) (below_size (by repeat (first | (with_reducible first | exact HB.out | apply below_alloc | apply pw_below_drewN | apply below_drew1) | exact HB.out)))); have n2_ := Aside0.mk (below_step (by repeat (first | (with_reducible first | exact HB.out | apply below_alloc | apply pw_below_drewN | apply below_drew1) | exact HB.out)) hb); clear HO_5; clear HB; have HO_5 := n0_; have HO134 := n1_; have HB := n2_; clear n0_ n1_ n2_; clear hb ho23; obtain ⟨Ao25, co25, eo25⟩ := Kd.R_slice HO134.out; subst eo25) | ((with_reducible refine gate_builtin (b := .append) (xs := #[.tmp 43, .tmp 50]) rfl ?_); at_builtin; refine Kd.R_append_rows k40 (w0 := w) w.heap.size rfl (.tmp 43) (.tmp 50) 30 40 (.agg #[(.int .i64 0), (.int .i64 0), (.int .u8 0), (.int .i64 0), (.int .i64 0), (.int .i64 0)]) 48 rfl Try.underlying30 info40 rfl (by decide) (by omega) u5 x5_1 y132 _ _ _ (fun k_ => some k_ ≠ (.slice Ao25 y132.length co25 : Value).ownBlock) (fun _ => False) rfl rfl ?aO ?aR (fun _ _ h => h) (fun _ h => h.elim) ?aF ?aB ?aS ?aL ?_; (case aR => repeat (first | exact (Kd.R_reads' HO134.out).2.2 | (with_reducible refine Kd.C_alloc ?_ _) | (with_reducible refine Kd.C_drewN ?_ _) | (with_reducible refine Kd.C_drew ?_))); (case aB => exact (by repeat (first | (with_reducible first | exact HB.out | apply below_alloc | apply pw_below_drewN | apply below_drew1) | exact HB.out))); (case aF => exact (fun k_ hk => Kd.fresh' (Kd.R_lt (by (with_reducible repeat (first | apply Kd.R_alloc | apply Kd.R_drewN | apply Kd.R_drew)); exact HO134.out)) k_ hk)); (case aO => exact (by (with_reducible repeat (first | apply Kd.R_alloc | apply Kd.R_drewN | apply Kd.R_drew)); exact Kd.R_mono HO_5.out (fun _ hk => hk.2))); (case aS => exact (below_size (by repeat (first | (with_reducible first | exact HB.out | apply below_alloc | apply pw_below_drewN | apply below_drew1) | exact HB.out)))); (case aL => have := LMc21.out; omega); intro v136 w24 ho hb hg hat; rw [← Ny135.out] at ho; have n0_ := Aside0.mk (Kd.R_after (ok := (fun _ => True)) (by (with_reducible repeat (first | apply Kd.R_alloc | apply Kd.R_drewN | apply Kd.R_drew)); exact HO134.out) hg hat); have n1_ := Aside0.mk (hb); have n2_ := Aside0.mk (ho); clear HO134; clear HB; clear HO_5; have HO134 := n0_; have HB := n1_; have HO137 := n2_; clear n0_ n1_ n2_; clear ho hb hg hat))
                    go_roundg kj2
                    case measure => have := HK1.out; have := HJ2.out; omega
                    case rel => exact ⟨(y135), (wrap64 (x6_1 + 1)), (by first | rfl | (simp; done) | (simp [*]; done)), H', ⟨by have := HK1.out; have := HJ2.out; omega⟩, ⟨by (with_reducible repeat (first | apply Kd.R_alloc | apply Kd.R_drewN | apply Kd.R_drew)); exact Kd.R_mono HO137.out (fun _ hk => trivial)⟩, ⟨by repeat (first | (with_reducible first | exact HB.out | apply below_alloc | apply pw_below_drewN | apply below_drew1) | exact HB.out)⟩⟩
                  · rw [if_neg c21] at H
                    exact absurd H (by simp)
              · rw [if_neg c7] at H
                exact absurd H (by simp)
            · rw [if_neg c6] at H
              exact absurd H (by simp)
          · replace c5 := Bool.eq_false_iff.mpr c5
            subst c5
            have H1 : ((interlocklaw08_known.f).bind fun t138 => (if t138 = true then ((race_Racy.f 0 0 1 ([] : List Int) 0 0 ([] : List (List (S25))) x5_1).bind fun t139 => (some (!t139))) else (some false))) = some r := by rw [if_neg (show ¬ (false = true) by decide)] at H; exact H
            clear H
            have H := H1
            clear H1
            replace H := Option.bind_eq_some_iff.mp H
            obtain ⟨t138, A260, H⟩ := H
            replace H : (if t138 = true then ((race_Racy.f 0 0 1 ([] : List Int) 0 0 ([] : List (List (S25))) x5_1).bind fun t139 => (some (!t139))) else (some false)) = some r := H
            have A26 := Aside0.mk A260
            clear A260
            by_cases c27 : t138 = true
            · subst c27
              have H1 : ((race_Racy.f 0 0 1 ([] : List Int) 0 0 ([] : List (List (S25))) x5_1).bind fun t139 => (some (!t139))) = some r := by rw [if_pos rfl] at H; exact H
              clear H
              have H := H1
              clear H1
              replace H := Option.bind_eq_some_iff.mp H
              obtain ⟨t139, A280, H⟩ := H
              replace H : (some (!t139)) = some r := H
              have A28 := Aside0.mk A280
              clear A280
              obtain rfl := Option.some.inj H
              go_wp2_with (first | ((with_reducible refine gate_callee (f := 12) rfl ?_); refine goesL_ (some 52) rfl rfl Try.func12 (by kernel_rfl) rfl #[] rfl (by (try simp only [List.map_toArray, List.map_cons, List.map_nil]); first | done | rfl | (simp only [List.length_drop, List.length_take]; rfl)) ?_; (with_reducible refine (interlocklaw08_known.calls  true _ A26.out).mono ?_); rintro e w29 ⟨rfl, hb⟩; refine ⟨_, rfl, ?_⟩; have n0_ := Aside0.mk (Kd.R_below (by (with_reducible repeat (first | apply Kd.R_alloc | apply Kd.R_drewN | apply Kd.R_drew)); exact HO_5.out) hb); have n1_ := Aside0.mk (below_step (by repeat (first | (with_reducible first | exact HB.out | apply below_alloc | apply pw_below_drewN | apply below_drew1) | exact HB.out)) hb); clear HO_5; clear HB; have HO_5 := n0_; have HB := n1_; clear n0_ n1_; (try clear hb); (try clear hb2); (try clear hk); (try clear hi); obtain ⟨Ao30, co30, eo30⟩ := Kd.R_slice HO_5.out; subst eo30) | (go_at_call 13; (refine (race_Racy.calls 0 0 1 _ _ ([] : List Int) 0 0 _ _ ([] : List (List (S25))) _ _ x5_1 t139 _ ?side1 ?side2 ?side3 ?side4 ?side5 ?side6 A28.out).mono ?_); (case side1 => exact Kd.C_nil _ _); (case side2 => exact Nat.le_refl _); (case side3 => exact Kd.C_nil _ _); (case side4 => exact Nat.le_refl _); (case side5 => repeat (first | exact (Kd.R_reads' HO_5.out).2.2 | (with_reducible refine Kd.C_alloc ?_ _) | (with_reducible refine Kd.C_drewN ?_ _) | (with_reducible refine Kd.C_drew ?_))); (case side6 => exact (Kd.R_reads' HO_5.out).2.1); rintro e w31 ⟨rfl, hb⟩; clear A28; have n0_ := Aside0.mk (Kd.R_below (by (with_reducible repeat (first | apply Kd.R_alloc | apply Kd.R_drewN | apply Kd.R_drew)); exact HO_5.out) hb); have n1_ := Aside0.mk (below_step (by repeat (first | (with_reducible first | exact HB.out | apply below_alloc | apply pw_below_drewN | apply below_drew1) | exact HB.out)) hb); clear HO_5; clear HB; have HO_5 := n0_; have HB := n1_; clear n0_ n1_; (try clear hb); (try clear hb2); (try clear hk); (try clear hi)))
              go_ret
              exact ⟨by first | rfl | (simp [errW_none, errW_some] <;> rfl) | (simp [*, errW_none, errW_some] <;> rfl), by repeat (first | (with_reducible first | exact HB.out | apply below_alloc | apply pw_below_drewN | apply below_drew1) | exact HB.out)⟩
            · replace c27 := Bool.eq_false_iff.mpr c27
              subst c27
              have H1 : (some false) = some r := by rw [if_neg (show ¬ (false = true) by decide)] at H; exact H
              clear H
              have H := H1
              clear H1
              obtain rfl := Option.some.inj H
              go_wp2_with (first | ((with_reducible refine gate_callee (f := 12) rfl ?_); refine goesL_ (some 52) rfl rfl Try.func12 (by kernel_rfl) rfl #[] rfl (by (try simp only [List.map_toArray, List.map_cons, List.map_nil]); first | done | rfl | (simp only [List.length_drop, List.length_take]; rfl)) ?_; (with_reducible refine (interlocklaw08_known.calls  false _ A26.out).mono ?_); rintro e w32 ⟨rfl, hb⟩; refine ⟨_, rfl, ?_⟩; have n0_ := Aside0.mk (Kd.R_below (by (with_reducible repeat (first | apply Kd.R_alloc | apply Kd.R_drewN | apply Kd.R_drew)); exact HO_5.out) hb); have n1_ := Aside0.mk (below_step (by repeat (first | (with_reducible first | exact HB.out | apply below_alloc | apply pw_below_drewN | apply below_drew1) | exact HB.out)) hb); clear HO_5; clear HB; have HO_5 := n0_; have HB := n1_; clear n0_ n1_; (try clear hb); (try clear hb2); (try clear hk); (try clear hi)))
              go_ret
              exact ⟨by first | rfl | (simp [errW_none, errW_some] <;> rfl) | (simp [*, errW_none, errW_some] <;> rfl), by repeat (first | (with_reducible first | exact HB.out | apply below_alloc | apply pw_below_drewN | apply below_drew1) | exact HB.out)⟩

end Go.Proofs.Ytblnimopffhocaa.P
