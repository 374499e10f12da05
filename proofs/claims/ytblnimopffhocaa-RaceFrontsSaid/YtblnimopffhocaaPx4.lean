/- The walks of the functions that a law reaches, or the law's row: printed by a program of this session (wip/xprint.py) that drives the kit's printer with contracts of its own. -/
import Derived.Test.YtblnimopffhocaaPx0
import Derived.Test.YtblnimopffhocaaRHand9
import Derived.Test.YtblnimopffhocaaPx1
import Derived.Test.YtblnimopffhocaaPx2
import Derived.Test.YtblnimopffhocaaPx3
namespace Go.Proofs.Ytblnimopffhocaa.P
open Go.RowKit Go.Proofs.YtblnimopffhocaaW.PrintWords Go.Proofs.YtblnimopffhocaaW.PrintLast Go.Proofs.YtblnimopffhocaaW.PrintMore Go.Proofs.YtblnimopffhocaaX
attribute [local go_sem] max2_int min2_int max_two min_two max_three min_three max_four min_four   -- for this text's walks alone
set_option linter.unusedVariables false
set_option linter.unusedSimpArgs false

attribute [local go_sem high] eqA55
/-! ### interlocklaw08_RaceAlone: function 9 -/
mutual
def interlocklaw08_RaceAlone.l0 : Nat → Bool → List (S40) → Int → Option (Bool)
  | 0, _, _, _ => none
  | k + 1, x1, x5, x6 => if x6 < (x5.length : Int) then (if x1 = true then (if 0 ≤ x6 then (interlocklaw08_RaceAlone.j1 k x1 x5 x6 (((rd_T40 x5 x6).f2) == 8)) else (none)) else (interlocklaw08_RaceAlone.j1 k x1 x5 x6 false)) else ((interlocklaw08_known.f).bind fun t156 => (if t156 = true then ((race_Find.f 0 0 0 (([1] : List Int)) 0 0 ([] : List (List (S25))) x5).bind fun t160 => (some ((t160.length : Int) == 0))) else (some false)))
def interlocklaw08_RaceAlone.j1 : Nat → Bool → List (S40) → Int → Bool → Option (Bool)
  | 0, _, _, _, _ => none
  | k + 1, x1, x5, x6, x23 => if x23 = true then (if 0 ≤ x6 then (if x6 < (x5.length : Int) then ((some (x5.set (x6 : Int).toNat (⟨(rd_T40 x5 x6).f0, (rd_T40 x5 x6).f1, 7, (rd_T40 x5 x6).f3, (rd_T40 x5 x6).f4, (rd_T40 x5 x6).f5⟩ : S40) : List (S40))).bind fun y164 => (if x1 = true then (interlocklaw08_RaceAlone.l0 k x1 y164 (wrap64 (x6 + 1))) else (interlocklaw08_RaceAlone.l0 k x1 (y164.set (x6 : Int).toNat (⟨2, (rd_T40 y164 x6).f1, (rd_T40 y164 x6).f2, (rd_T40 y164 x6).f3, (rd_T40 y164 x6).f4, (rd_T40 y164 x6).f5⟩ : S40)) (wrap64 (x6 + 1))))) else (none)) else (none)) else (if x1 = true then (interlocklaw08_RaceAlone.l0 k x1 x5 (wrap64 (x6 + 1))) else (if 0 ≤ x6 then (if x6 < (x5.length : Int) then (interlocklaw08_RaceAlone.l0 k x1 (x5.set (x6 : Int).toNat (⟨2, (rd_T40 x5 x6).f1, (rd_T40 x5 x6).f2, (rd_T40 x5 x6).f3, (rd_T40 x5 x6).f4, (rd_T40 x5 x6).f5⟩ : S40)) (wrap64 (x6 + 1))) else (none)) else (none)))
end
def interlocklaw08_RaceAlone.f (k : Nat) (l0 : List (S61)) (a1 : Bool) : Option (Bool) := (interlocklaw07_Trace.f k l0).bind fun t153 => (interlocklaw08_RaceAlone.l0 k a1 t153 0)
theorem interlocklaw08_RaceAlone.mono_l : ∀ k, (∀ y0 y1 y2, LeO (interlocklaw08_RaceAlone.l0 k y0 y1 y2) (interlocklaw08_RaceAlone.l0 (k + 1) y0 y1 y2)) ∧ (∀ y0 y1 y2 y3, LeO (interlocklaw08_RaceAlone.j1 k y0 y1 y2 y3) (interlocklaw08_RaceAlone.j1 (k + 1) y0 y1 y2 y3))
  | 0 => ⟨fun _ _ _ r h => by simp [interlocklaw08_RaceAlone.l0] at h, fun _ _ _ _ r h => by simp [interlocklaw08_RaceAlone.j1] at h⟩
  | k + 1 => by
    obtain ⟨ih0, ih1⟩ := interlocklaw08_RaceAlone.mono_l k
    refine ⟨?_, ?_⟩
    · intro y0 y1 y2
      unfold interlocklaw08_RaceAlone.l0
      repeat' first
      | (with_reducible exact ih0 _ _ _)
      | (with_reducible exact ih1 _ _ _ _)
      | (with_reducible exact interlocklaw07_Trace.mono _ _)
      | (with_reducible exact LeO.refl _)
      | (with_reducible exact LeO.none _)
      | (with_reducible refine LeO.ite ?_ ?_)
      | (with_reducible refine LeO.bind ?_ (fun _ => ?_))
      | exact ih0 _ _ _
      | exact ih1 _ _ _ _
      | exact interlocklaw07_Trace.mono _ _
      | exact LeO.none _
      | refine LeO.ite ?_ ?_
      | refine LeO.bind ?_ (fun _ => ?_)
    · intro y0 y1 y2 y3
      unfold interlocklaw08_RaceAlone.j1
      repeat' first
      | (with_reducible exact ih0 _ _ _)
      | (with_reducible exact ih1 _ _ _ _)
      | (with_reducible exact interlocklaw07_Trace.mono _ _)
      | (with_reducible exact LeO.refl _)
      | (with_reducible exact LeO.none _)
      | (with_reducible refine LeO.ite ?_ ?_)
      | (with_reducible refine LeO.bind ?_ (fun _ => ?_))
      | exact ih0 _ _ _
      | exact ih1 _ _ _ _
      | exact interlocklaw07_Trace.mono _ _
      | exact LeO.none _
      | refine LeO.ite ?_ ?_
      | refine LeO.bind ?_ (fun _ => ?_)
theorem interlocklaw08_RaceAlone.mono : ∀ a0 a1 k, LeO (interlocklaw08_RaceAlone.f k a0 a1) (interlocklaw08_RaceAlone.f (k + 1) a0 a1) := by
  intro a0 a1 k
  obtain ⟨ih0, ih1⟩ := interlocklaw08_RaceAlone.mono_l k
  unfold interlocklaw08_RaceAlone.f
  repeat' first
      | (with_reducible exact ih0 _ _ _)
      | (with_reducible exact ih1 _ _ _ _)
      | (with_reducible exact interlocklaw07_Trace.mono _ _)
      | (with_reducible exact LeO.refl _)
      | (with_reducible exact LeO.none _)
      | (with_reducible refine LeO.ite ?_ ?_)
      | (with_reducible refine LeO.bind ?_ (fun _ => ?_))
      | exact ih0 _ _ _
      | exact ih1 _ _ _ _
      | exact interlocklaw07_Trace.mono _ _
      | exact LeO.none _
      | refine LeO.ite ?_ ?_
      | refine LeO.bind ?_ (fun _ => ?_)
set_option maxHeartbeats 8000000 in
set_option maxRecDepth 100000 in
theorem interlocklaw08_RaceAlone.calls (k : Nat) (A0 : Option Addr) (c0 : Nat) (l0 : List (S61)) (a1 : Bool) (r : Bool) (w : World) (hr0 : Kd.C k61 w A0 l0.length l0) (hc0 : l0.length ≤ c0) (h : interlocklaw08_RaceAlone.f k l0 a1 = some r) :
    Calls Try.prog 9 #[.slice A0 l0.length c0, .bool a1] w fun e w' => e = .returned (.bool r) ∧ Below w.heap.size w w' := by
  have hu29 := Try.underlying29
  have HR0 := Aside0.mk hr0
  have HC0 := Aside0.mk hc0
  clear hr0 hc0
  have HB := Aside0.mk (Below.refl w.heap.size w)
  have H : ((interlocklaw07_Trace.f k l0).bind fun t153 => (interlocklaw08_RaceAlone.l0 k a1 t153 0)) = some r := h
  clear h
  replace H := Option.bind_eq_some_iff.mp H
  obtain ⟨t153, A30, H⟩ := H
  replace H : (interlocklaw08_RaceAlone.l0 k a1 t153 0) = some r := H
  have A3 := Aside0.mk A30
  clear A30
  have H' := Aside0.mk H
  clear H
  go_enter Try.func9, Try.ntmps9
  go_wp2_with (first | ((with_reducible refine gate_callee (f := 19) rfl ?_); refine goesL_ (some 8) rfl rfl Try.func19 (by kernel_rfl) rfl #[.slice A0 l0.length c0] rfl (by (try simp only [List.map_toArray, List.map_cons, List.map_nil]); first | done | rfl | (simp only [List.length_drop, List.length_take]; rfl)) ?_; (with_reducible refine (interlocklaw07_Trace.calls k _ _ l0 t153 _ ?side1 ?side2 A3.out).mono ?_); (case side1 => repeat (first | exact HR0.out | (with_reducible refine Kd.C_alloc ?_ _) | (with_reducible refine Kd.C_drewN ?_ _) | (with_reducible refine Kd.C_drew ?_))); (case side2 => exact HC0.out); rintro e w4 ⟨v154, rfl, ho0, hb⟩; refine ⟨_, rfl, ?_⟩; have n0_ := Aside0.mk (Kd.R_lower ho0 (below_size (by repeat (first | (with_reducible first | exact HB.out | apply below_alloc | apply pw_below_drewN | apply below_drew1) | exact HB.out)))); have n1_ := Aside0.mk (below_step (by repeat (first | (with_reducible first | exact HB.out | apply below_alloc | apply pw_below_drewN | apply below_drew1) | exact HB.out)) hb); clear HB; have HO155 := n0_; have HB := n1_; clear n0_ n1_; (try clear hb); (try clear hb2); (try clear hk); (try clear hi); (try clear ho0)))
  go_loopg [6] k (fun kq v6 w' => ∃ (x5_1 : List (S40)) (x6_1 : Int), v6 = .int .i64 x6_1 ∧ Aside0 (interlocklaw08_RaceAlone.l0 kq a1 x5_1 x6_1 = some r) ∧ Aside0 (kq ≤ k) ∧ Aside0 (Kd.R k40 40 w' w.heap.size (fun _ => True) v154 x5_1) ∧ Aside0 (Below w.heap.size w w'))
  case atStart => exact ⟨(t153), (0), (by first | rfl | (simp; done) | (simp [*]; done)), H', ⟨Nat.le_refl _⟩, ⟨by (with_reducible repeat (first | apply Kd.R_alloc | apply Kd.R_drewN | apply Kd.R_drew)); exact HO155.out⟩, ⟨by repeat (first | (with_reducible first | exact HB.out | apply below_alloc | apply pw_below_drewN | apply below_drew1) | exact HB.out)⟩⟩
  case round =>
    clear H'
    try clear c1
    try clear p2
    obtain ⟨x5_1, x6_1, rfl, HA, HK1, HO_5, HB⟩ := hrel
    cases gk with
    | zero => exact absurd HA.out (by simp [interlocklaw08_RaceAlone.l0])
    | succ k1 =>
      have H := HA.out
      clear HA
      simp only [interlocklaw08_RaceAlone.l0] at H
      by_cases c5 : x6_1 < (x5_1.length : Int)
      · rw [if_pos c5] at H
        have c5b0 : decide (x6_1 < (x5_1.length : Int)) = true := decide_eq_true c5
        clear c5
        have HC6 := Aside0.mk H
        clear H
        obtain ⟨Ao7, co7, eo7⟩ := Kd.R_slice HO_5.out
        subst eo7
        go_upto_region 5 with (fail)
        go_cut [23] (fun v23 wc => ∃ (kq : Nat) (x23_5 : Bool), v23 = .bool x23_5 ∧ Aside0 (interlocklaw08_RaceAlone.j1 kq a1 x5_1 x6_1 x23_5 = some r) ∧ Aside0 (kq ≤ k1) ∧ Aside0 (Kd.R k40 40 wc w.heap.size (fun _ => True) (.slice Ao7 x5_1.length co7) x5_1) ∧ Aside0 (Below w.heap.size w wc))
        case first =>
          have H := HC6.out
          clear HC6
          by_cases c8 : a1 = true
          · subst c8
            have H1 : (if 0 ≤ x6_1 then (interlocklaw08_RaceAlone.j1 k1 true x5_1 x6_1 (((rd_T40 x5_1 x6_1).f2) == 8)) else (none)) = some r := by rw [if_pos rfl] at H; exact H
            clear H
            have H := H1
            clear H1
            by_cases c9 : 0 ≤ x6_1
            · rw [if_pos c9] at H
              have c9b0 : decide (0 ≤ x6_1) = true := decide_eq_true c9
              clear c9
              (first | rw [c9b0] | (simp only [i64_w, i32_w]; rw [c9b0]) | skip)
              have H' := Aside0.mk H
              clear H
              have p163 : 0 ≤ (x6_1 : Int) := of_decide_eq_true (by first | (with_reducible assumption) | assumption)
              have q163 : x6_1 < (x5_1.length : Int) := of_decide_eq_true (by first | (with_reducible assumption) | assumption)
              obtain ⟨ad163, e163, hx163_0, hx163_1, hx163_2, hx163_3, hx163_4, hx163_5⟩ := at_T40 (Kd.R_reads' HO_5.out).2.2 x6_1 p163 q163
              cases e163
              replace p163 := eq_true p163
              replace q163 := eq_true q163
              go_wp2
              go_meet
              case rel => exact ⟨_, ((((rd_T40 x5_1 x6_1).f2) == 8)), (by first | rfl | (simp; done) | (simp [*]; done)), H', ⟨by have := HK1.out; first | omega | exact Nat.le_refl _⟩, ⟨by (with_reducible repeat (first | apply Kd.R_alloc | apply Kd.R_drewN | apply Kd.R_drew)); exact HO_5.out⟩, ⟨by repeat (first | (with_reducible first | exact HB.out | apply below_alloc | apply pw_below_drewN | apply below_drew1) | exact HB.out)⟩⟩
            · rw [if_neg c9] at H
              exact absurd H (by simp)
          · replace c8 := Bool.eq_false_iff.mpr c8
            subst c8
            have H1 : (interlocklaw08_RaceAlone.j1 k1 false x5_1 x6_1 false) = some r := by rw [if_neg (show ¬ (false = true) by decide)] at H; exact H
            clear H
            have H := H1
            clear H1
            have H' := Aside0.mk H
            clear H
            go_wp2
            go_meet
            case rel => exact ⟨_, (false), (by first | rfl | (simp; done) | (simp [*]; done)), H', ⟨by have := HK1.out; first | omega | exact Nat.le_refl _⟩, ⟨by (with_reducible repeat (first | apply Kd.R_alloc | apply Kd.R_drewN | apply Kd.R_drew)); exact HO_5.out⟩, ⟨by repeat (first | (with_reducible first | exact HB.out | apply below_alloc | apply pw_below_drewN | apply below_drew1) | exact HB.out)⟩⟩
        case rest =>
          clear HC6
          try clear c1
          try clear p1
          try clear q1
          try clear hx1
          try clear p2
          try clear c5
          try clear c5b0
          try clear c8
          try clear c9
          try clear c9b0
          try clear hx163_0
          try clear hx163_1
          try clear hx163_2
          try clear hx163_3
          try clear hx163_4
          try clear hx163_5
          try clear p163
          try clear p2
          try clear q163
          obtain ⟨kq, x23_5, rfl, HA, HJ5, HO_5, HB⟩ := hcut
          cases kq with
          | zero => exact absurd HA.out (by simp [interlocklaw08_RaceAlone.j1])
          | succ kj5 =>
            have H := HA.out
            clear HA
            simp only [interlocklaw08_RaceAlone.j1] at H
            by_cases c10 : x23_5 = true
            · subst c10
              have H1 : (if 0 ≤ x6_1 then (if x6_1 < (x5_1.length : Int) then ((some (x5_1.set (x6_1 : Int).toNat (⟨(rd_T40 x5_1 x6_1).f0, (rd_T40 x5_1 x6_1).f1, 7, (rd_T40 x5_1 x6_1).f3, (rd_T40 x5_1 x6_1).f4, (rd_T40 x5_1 x6_1).f5⟩ : S40) : List (S40))).bind fun y164 => (if a1 = true then (interlocklaw08_RaceAlone.l0 kj5 a1 y164 (wrap64 (x6_1 + 1))) else (interlocklaw08_RaceAlone.l0 kj5 a1 (y164.set (x6_1 : Int).toNat (⟨2, (rd_T40 y164 x6_1).f1, (rd_T40 y164 x6_1).f2, (rd_T40 y164 x6_1).f3, (rd_T40 y164 x6_1).f4, (rd_T40 y164 x6_1).f5⟩ : S40)) (wrap64 (x6_1 + 1))))) else (none)) else (none)) = some r := by rw [if_pos rfl] at H; exact H
              clear H
              have H := H1
              clear H1
              by_cases c11 : 0 ≤ x6_1
              · rw [if_pos c11] at H
                have c11b0 : decide (0 ≤ x6_1) = true := decide_eq_true c11
                clear c11
                by_cases c12 : x6_1 < (x5_1.length : Int)
                · rw [if_pos c12] at H
                  have c12b0 : decide (x6_1 < (x5_1.length : Int)) = true := decide_eq_true c12
                  clear c12
                  obtain ⟨y164, hy164⟩ : ∃ y_ : List (S40), y_ = (x5_1.set (x6_1 : Int).toNat (⟨(rd_T40 x5_1 x6_1).f0, (rd_T40 x5_1 x6_1).f1, 7, (rd_T40 x5_1 x6_1).f3, (rd_T40 x5_1 x6_1).f4, (rd_T40 x5_1 x6_1).f5⟩ : S40)) := ⟨_, rfl⟩
                  replace H : (if a1 = true then (interlocklaw08_RaceAlone.l0 kj5 a1 y164 (wrap64 (x6_1 + 1))) else (interlocklaw08_RaceAlone.l0 kj5 a1 (y164.set (x6_1 : Int).toNat (⟨2, (rd_T40 y164 x6_1).f1, (rd_T40 y164 x6_1).f2, (rd_T40 y164 x6_1).f3, (rd_T40 y164 x6_1).f4, (rd_T40 y164 x6_1).f5⟩ : S40)) (wrap64 (x6_1 + 1)))) = some r := by first | (rw [hy164]; with_reducible exact H) | (have H2_ := (Option.bind_some _ _).symm.trans H; rw [hy164]; with_reducible exact H2_) | (have H2_ := (Option.bind_some _ _).symm.trans H; with_reducible exact H2_) | with_reducible exact H | (rw [hy164]; exact H) | exact H
                  have Ny164 := Aside0.mk hy164
                  clear hy164
                  by_cases c14 : a1 = true
                  · subst c14
                    have H1 : (interlocklaw08_RaceAlone.l0 kj5 true y164 (wrap64 (x6_1 + 1))) = some r := by rw [if_pos rfl] at H; exact H
                    clear H
                    have H := H1
                    clear H1
                    have H' := Aside0.mk H
                    clear H
                    have p13 : 0 ≤ (x6_1 : Int) := of_decide_eq_true (by first | (with_reducible assumption) | assumption)
                    have q13 : (x6_1 : Int) < ((x5_1.length : Int) : Int) := of_decide_eq_true (by first | (with_reducible assumption) | assumption)
                    obtain ⟨go13, co13, eo13, gb13, gl13, cl13, HG13⟩ := Kd.R_form HO_5.out (by omega)
                    (first | cases eo13 | (injection eo13 with ea_ en_ ec_; (first | subst ea_ | (injection ea_ with ea_; subst ea_)); subst ec_; clear en_))
                    have GB13 := Aside0.mk gb13
                    have GG13 := Aside0.mk HG13
                    clear gb13 gl13 HG13
                    obtain ⟨ce13, hcl13, hM13, hcc13, hfr13⟩ := Kd.R_elem HO_5.out z40 (x6_1 : Int) p13 q13
                    obtain rfl := k40_openM hM13
                    have hx13_0 : wc.cell? ⟨go13, (x6_1 : Int).toNat * 6, none⟩ = some (.int .i64 ((rd_T40 x5_1 x6_1).f0)) := hcc13 0 _ rfl
                    have hx13_1 : wc.cell? ⟨go13, (x6_1 : Int).toNat * 6 + 1, none⟩ = some (.int .i64 ((rd_T40 x5_1 x6_1).f1)) := hcc13 1 _ rfl
                    have hx13_2 : wc.cell? ⟨go13, (x6_1 : Int).toNat * 6 + 2, none⟩ = some (.int .u8 ((rd_T40 x5_1 x6_1).f2)) := hcc13 2 _ rfl
                    have hx13_3 : wc.cell? ⟨go13, (x6_1 : Int).toNat * 6 + 3, none⟩ = some (.int .i64 ((rd_T40 x5_1 x6_1).f3)) := hcc13 3 _ rfl
                    have hx13_4 : wc.cell? ⟨go13, (x6_1 : Int).toNat * 6 + 4, none⟩ = some (.int .i64 ((rd_T40 x5_1 x6_1).f4)) := hcc13 4 _ rfl
                    have hx13_5 : wc.cell? ⟨go13, (x6_1 : Int).toNat * 6 + 5, none⟩ = some (.int .i64 ((rd_T40 x5_1 x6_1).f5)) := hcc13 5 _ rfl
                    have hf13_0 : wc.frozen? ⟨go13, (x6_1 : Int).toNat * 6, none⟩ = false := hfr13 0
                    have hf13_1 : wc.frozen? ⟨go13, (x6_1 : Int).toNat * 6 + 1, none⟩ = false := hfr13 1
                    have hf13_2 : wc.frozen? ⟨go13, (x6_1 : Int).toNat * 6 + 2, none⟩ = false := hfr13 2
                    have hf13_3 : wc.frozen? ⟨go13, (x6_1 : Int).toNat * 6 + 3, none⟩ = false := hfr13 3
                    have hf13_4 : wc.frozen? ⟨go13, (x6_1 : Int).toNat * 6 + 4, none⟩ = false := hfr13 4
                    have hf13_5 : wc.frozen? ⟨go13, (x6_1 : Int).toNat * 6 + 5, none⟩ = false := hfr13 5
                    clear hcl13 hcc13 hfr13 hM13
                    replace p13 := eq_true p13
                    replace q13 := eq_true q13
                    have HX15 := Aside0.mk (show Kd.R k40 40 wc w.heap.size (fun _ => True) (.slice (some ⟨go13, 0, none⟩) x5_1.length co7) x5_1 from (by (with_reducible repeat (first | apply Kd.R_alloc | apply Kd.R_drewN | apply Kd.R_drew)); exact HO_5.out))
                    obtain ⟨ce15, hcl15, hM15, hcc15, hfr15⟩ := Kd.R_elem HX15.out z40 (x6_1 : Int) (of_decide_eq_true (by first | (with_reducible assumption) | assumption)) (by have h_ : (x6_1 : Int) < ((x5_1.length : Int) : Int) := of_decide_eq_true (by first | (with_reducible assumption) | assumption); first | exact h_ | (have e_ := (Kd.R_reads' HO_5.out).1; omega) | simpa using h_)
                    obtain rfl := k40_openM hM15
                    have HP15 := Kd.R_seg HX15.out (x6_1 : Int) (of_decide_eq_true (by first | (with_reducible assumption) | assumption)) (by have h_ : (x6_1 : Int) < ((x5_1.length : Int) : Int) := of_decide_eq_true (by first | (with_reducible assumption) | assumption); first | exact h_ | (have e_ := (Kd.R_reads' HO_5.out).1; omega) | simpa using h_) (seg := [.int .u8 7]) (j := 2) hcl15 hcc15 (show 3 ≤ 6 from by decide) (x' := (⟨(rd_T40 x5_1 x6_1).f0, (rd_T40 x5_1 x6_1).f1, 7, (rd_T40 x5_1 x6_1).f3, (rd_T40 x5_1 x6_1).f4, (rd_T40 x5_1 x6_1).f5⟩ : S40)) (k40_mkM _ _ _ (⟨(rd_T40 x5_1 x6_1).f0, (rd_T40 x5_1 x6_1).f1, 7, (rd_T40 x5_1 x6_1).f3, (rd_T40 x5_1 x6_1).f4, (rd_T40 x5_1 x6_1).f5⟩ : S40) ) (fun _ hk => hk)
                    have hx15_2 := hcc15 2 _ rfl
                    (try simp only [show (k40).sz = 6 from rfl, Nat.mul_one, Nat.add_zero] at hx15_2)
                    have hf15_2 := hfr15 2
                    (try simp only [show (k40).sz = 6 from rfl, Nat.mul_one, Nat.add_zero] at hf15_2)
                    clear hcl15 hcc15 hfr15 hM15
                    go_wp2_with (first | ((with_reducible refine gate_store (t := 5) (p := 27) rfl ?_); refine store_event (t := 5) (p := 27) (v := ?vo_w16) (w1 := (wc.setCell ⟨go13, (x6_1 : Int).toNat * 6 + 2, none⟩ (.int .u8 7))) ?hg ?ho ?hn ?hr ?_; (case ho => rfl); (case hg => rfl); (case hn => rfl); (case hr => first | (go_simp; done) | (go_simp; rfl)); intro w16 hw; have hg : wc.grownBy w16 (some go13) := (by rw [hw]; exact HP15.2); have hp_ : Kd.R k40 40 w16 w.heap.size (fun _ => True) (.slice (some ⟨go13, 0, none⟩) x5_1.length co7) y164 := (by rw [hw, Ny164.out]; exact HP15.1); clear HP15; have n0_ := Aside0.mk (hp_); have n1_ := Aside0.mk ((by rw [hw]; exact below_set (HB.out) GB13.out : Below w.heap.size w w16)); clear HO_5; clear HB; have HO_5 := n0_; have HB := n1_; clear n0_ n1_; clear hg hw hp_))
                    go_roundg kj5
                    case measure => have := HK1.out; have := HJ5.out; omega
                    case rel => exact ⟨(y164), (wrap64 (x6_1 + 1)), (by first | rfl | (simp; done) | (simp [*]; done)), H', ⟨by have := HK1.out; have := HJ5.out; omega⟩, ⟨by (with_reducible repeat (first | apply Kd.R_alloc | apply Kd.R_drewN | apply Kd.R_drew)); exact HO_5.out⟩, ⟨by repeat (first | (with_reducible first | exact HB.out | apply below_alloc | apply pw_below_drewN | apply below_drew1) | exact HB.out)⟩⟩
                  · replace c14 := Bool.eq_false_iff.mpr c14
                    subst c14
                    have H1 : (interlocklaw08_RaceAlone.l0 kj5 false (y164.set (x6_1 : Int).toNat (⟨2, (rd_T40 y164 x6_1).f1, (rd_T40 y164 x6_1).f2, (rd_T40 y164 x6_1).f3, (rd_T40 y164 x6_1).f4, (rd_T40 y164 x6_1).f5⟩ : S40)) (wrap64 (x6_1 + 1))) = some r := by rw [if_neg (show ¬ (false = true) by decide)] at H; exact H
                    clear H
                    have H := H1
                    clear H1
                    obtain ⟨y165, hy165⟩ : ∃ y_ : List (S40), y_ = (y164.set (x6_1 : Int).toNat (⟨2, (rd_T40 y164 x6_1).f1, (rd_T40 y164 x6_1).f2, (rd_T40 y164 x6_1).f3, (rd_T40 y164 x6_1).f4, (rd_T40 y164 x6_1).f5⟩ : S40)) := ⟨_, rfl⟩
                    replace H : (interlocklaw08_RaceAlone.l0 kj5 false y165 (wrap64 (x6_1 + 1))) = some r := by first | (rw [hy165]; with_reducible exact H) | (have H2_ := (Option.bind_some _ _).symm.trans H; rw [hy165]; with_reducible exact H2_) | (have H2_ := (Option.bind_some _ _).symm.trans H; with_reducible exact H2_) | with_reducible exact H | (rw [hy165]; exact H) | exact H
                    have Ny165 := Aside0.mk hy165
                    clear hy165
                    have H' := Aside0.mk H
                    clear H
                    have p13 : 0 ≤ (x6_1 : Int) := of_decide_eq_true (by first | (with_reducible assumption) | assumption)
                    have q13 : (x6_1 : Int) < ((x5_1.length : Int) : Int) := of_decide_eq_true (by first | (with_reducible assumption) | assumption)
                    obtain ⟨go13, co13, eo13, gb13, gl13, cl13, HG13⟩ := Kd.R_form HO_5.out (by omega)
                    (first | cases eo13 | (injection eo13 with ea_ en_ ec_; (first | subst ea_ | (injection ea_ with ea_; subst ea_)); subst ec_; clear en_))
                    have GB13 := Aside0.mk gb13
                    have GG13 := Aside0.mk HG13
                    clear gb13 gl13 HG13
                    obtain ⟨ce13, hcl13, hM13, hcc13, hfr13⟩ := Kd.R_elem HO_5.out z40 (x6_1 : Int) p13 q13
                    obtain rfl := k40_openM hM13
                    have hx13_0 : wc.cell? ⟨go13, (x6_1 : Int).toNat * 6, none⟩ = some (.int .i64 ((rd_T40 x5_1 x6_1).f0)) := hcc13 0 _ rfl
                    have hx13_1 : wc.cell? ⟨go13, (x6_1 : Int).toNat * 6 + 1, none⟩ = some (.int .i64 ((rd_T40 x5_1 x6_1).f1)) := hcc13 1 _ rfl
                    have hx13_2 : wc.cell? ⟨go13, (x6_1 : Int).toNat * 6 + 2, none⟩ = some (.int .u8 ((rd_T40 x5_1 x6_1).f2)) := hcc13 2 _ rfl
                    have hx13_3 : wc.cell? ⟨go13, (x6_1 : Int).toNat * 6 + 3, none⟩ = some (.int .i64 ((rd_T40 x5_1 x6_1).f3)) := hcc13 3 _ rfl
                    have hx13_4 : wc.cell? ⟨go13, (x6_1 : Int).toNat * 6 + 4, none⟩ = some (.int .i64 ((rd_T40 x5_1 x6_1).f4)) := hcc13 4 _ rfl
                    have hx13_5 : wc.cell? ⟨go13, (x6_1 : Int).toNat * 6 + 5, none⟩ = some (.int .i64 ((rd_T40 x5_1 x6_1).f5)) := hcc13 5 _ rfl
                    have hf13_0 : wc.frozen? ⟨go13, (x6_1 : Int).toNat * 6, none⟩ = false := hfr13 0
                    have hf13_1 : wc.frozen? ⟨go13, (x6_1 : Int).toNat * 6 + 1, none⟩ = false := hfr13 1
                    have hf13_2 : wc.frozen? ⟨go13, (x6_1 : Int).toNat * 6 + 2, none⟩ = false := hfr13 2
                    have hf13_3 : wc.frozen? ⟨go13, (x6_1 : Int).toNat * 6 + 3, none⟩ = false := hfr13 3
                    have hf13_4 : wc.frozen? ⟨go13, (x6_1 : Int).toNat * 6 + 4, none⟩ = false := hfr13 4
                    have hf13_5 : wc.frozen? ⟨go13, (x6_1 : Int).toNat * 6 + 5, none⟩ = false := hfr13 5
                    clear hcl13 hcc13 hfr13 hM13
                    replace p13 := eq_true p13
                    replace q13 := eq_true q13
                    have HX18 := Aside0.mk (show Kd.R k40 40 wc w.heap.size (fun _ => True) (.slice (some ⟨go13, 0, none⟩) x5_1.length co7) x5_1 from (by (with_reducible repeat (first | apply Kd.R_alloc | apply Kd.R_drewN | apply Kd.R_drew)); exact HO_5.out))
                    obtain ⟨ce18, hcl18, hM18, hcc18, hfr18⟩ := Kd.R_elem HX18.out z40 (x6_1 : Int) (of_decide_eq_true (by first | (with_reducible assumption) | assumption)) (by have h_ : (x6_1 : Int) < ((x5_1.length : Int) : Int) := of_decide_eq_true (by first | (with_reducible assumption) | assumption); first | exact h_ | (have e_ := (Kd.R_reads' HO_5.out).1; omega) | simpa using h_)
                    obtain rfl := k40_openM hM18
                    have HP18 := Kd.R_seg HX18.out (x6_1 : Int) (of_decide_eq_true (by first | (with_reducible assumption) | assumption)) (by have h_ : (x6_1 : Int) < ((x5_1.length : Int) : Int) := of_decide_eq_true (by first | (with_reducible assumption) | assumption); first | exact h_ | (have e_ := (Kd.R_reads' HO_5.out).1; omega) | simpa using h_) (seg := [.int .u8 7]) (j := 2) hcl18 hcc18 (show 3 ≤ 6 from by decide) (x' := (⟨(rd_T40 x5_1 x6_1).f0, (rd_T40 x5_1 x6_1).f1, 7, (rd_T40 x5_1 x6_1).f3, (rd_T40 x5_1 x6_1).f4, (rd_T40 x5_1 x6_1).f5⟩ : S40)) (k40_mkM _ _ _ (⟨(rd_T40 x5_1 x6_1).f0, (rd_T40 x5_1 x6_1).f1, 7, (rd_T40 x5_1 x6_1).f3, (rd_T40 x5_1 x6_1).f4, (rd_T40 x5_1 x6_1).f5⟩ : S40) ) (fun _ hk => hk)
                    have hx18_2 := hcc18 2 _ rfl
                    (try simp only [show (k40).sz = 6 from rfl, Nat.mul_one, Nat.add_zero] at hx18_2)
                    have hf18_2 := hfr18 2
                    (try simp only [show (k40).sz = 6 from rfl, Nat.mul_one, Nat.add_zero] at hf18_2)
                    clear hcl18 hcc18 hfr18 hM18
                    go_wp2_with (first | ((with_reducible refine gate_store (t := 5) (p := 27) rfl ?_); refine store_event (t := 5) (p := 27) (v := ?vo_w19) (w1 := (wc.setCell ⟨go13, (x6_1 : Int).toNat * 6 + 2, none⟩ (.int .u8 7))) ?hg ?ho ?hn ?hr ?_; (case ho => rfl); (case hg => rfl); (case hn => rfl); (case hr => first | (go_simp; done) | (go_simp; rfl)); intro w19 hw; have hg : wc.grownBy w19 (some go13) := (by rw [hw]; exact HP18.2); have hp_ : Kd.R k40 40 w19 w.heap.size (fun _ => True) (.slice (some ⟨go13, 0, none⟩) x5_1.length co7) y164 := (by rw [hw, Ny164.out]; exact HP18.1); clear HP18; have n0_ := Aside0.mk (hp_); have n1_ := Aside0.mk ((by rw [hw]; exact below_set (HB.out) GB13.out : Below w.heap.size w w19)); clear HO_5; clear HB; have HO_5 := n0_; have HB := n1_; clear n0_ n1_; clear hg hw hp_; have p17 : 0 ≤ (x6_1 : Int) := of_decide_eq_true (by first | (with_reducible assumption) | assumption); have q17 : (x6_1 : Int) < ((x5_1.length : Int) : Int) := of_decide_eq_true (by first | (with_reducible assumption) | assumption); obtain ⟨ce17, hcl17, hM17, hcc17, hfr17⟩ := Kd.R_elem HO_5.out z40 (x6_1 : Int) p17 q17; obtain rfl := k40_openM hM17; have hx17_0 : w19.cell? ⟨go13, (x6_1 : Int).toNat * 6, none⟩ = some (.int .i64 ((rd_T40 y164 x6_1).f0)) := hcc17 0 _ rfl; have hx17_1 : w19.cell? ⟨go13, (x6_1 : Int).toNat * 6 + 1, none⟩ = some (.int .i64 ((rd_T40 y164 x6_1).f1)) := hcc17 1 _ rfl; have hx17_2 : w19.cell? ⟨go13, (x6_1 : Int).toNat * 6 + 2, none⟩ = some (.int .u8 ((rd_T40 y164 x6_1).f2)) := hcc17 2 _ rfl; have hx17_3 : w19.cell? ⟨go13, (x6_1 : Int).toNat * 6 + 3, none⟩ = some (.int .i64 ((rd_T40 y164 x6_1).f3)) := hcc17 3 _ rfl; have hx17_4 : w19.cell? ⟨go13, (x6_1 : Int).toNat * 6 + 4, none⟩ = some (.int .i64 ((rd_T40 y164 x6_1).f4)) := hcc17 4 _ rfl; have hx17_5 : w19.cell? ⟨go13, (x6_1 : Int).toNat * 6 + 5, none⟩ = some (.int .i64 ((rd_T40 y164 x6_1).f5)) := hcc17 5 _ rfl; have hf17_0 : w19.frozen? ⟨go13, (x6_1 : Int).toNat * 6, none⟩ = false := hfr17 0; have hf17_1 : w19.frozen? ⟨go13, (x6_1 : Int).toNat * 6 + 1, none⟩ = false := hfr17 1; have hf17_2 : w19.frozen? ⟨go13, (x6_1 : Int).toNat * 6 + 2, none⟩ = false := hfr17 2; have hf17_3 : w19.frozen? ⟨go13, (x6_1 : Int).toNat * 6 + 3, none⟩ = false := hfr17 3; have hf17_4 : w19.frozen? ⟨go13, (x6_1 : Int).toNat * 6 + 4, none⟩ = false := hfr17 4; have hf17_5 : w19.frozen? ⟨go13, (x6_1 : Int).toNat * 6 + 5, none⟩ = false := hfr17 5; clear hcl17 hcc17 hfr17 hM17; replace p17 := eq_true p17; replace q17 := eq_true q17; have HX20 := Aside0.mk (show Kd.R k40 40 w19 w.heap.size (fun _ => True) (.slice (some ⟨go13, 0, none⟩) x5_1.length co7) y164 from (by (with_reducible repeat (first | apply Kd.R_alloc | apply Kd.R_drewN | apply Kd.R_drew)); exact HO_5.out)); obtain ⟨ce20, hcl20, hM20, hcc20, hfr20⟩ := Kd.R_elem HX20.out z40 (x6_1 : Int) (of_decide_eq_true (by first | (with_reducible assumption) | assumption)) (by have h_ : (x6_1 : Int) < ((x5_1.length : Int) : Int) := of_decide_eq_true (by first | (with_reducible assumption) | assumption); first | exact h_ | (have e_ := (Kd.R_reads' HO_5.out).1; omega) | simpa using h_); obtain rfl := k40_openM hM20; have HP20 := Kd.R_seg HX20.out (x6_1 : Int) (of_decide_eq_true (by first | (with_reducible assumption) | assumption)) (by have h_ : (x6_1 : Int) < ((x5_1.length : Int) : Int) := of_decide_eq_true (by first | (with_reducible assumption) | assumption); first | exact h_ | (have e_ := (Kd.R_reads' HO_5.out).1; omega) | simpa using h_) (seg := [.int .i64 2]) (j := 0) hcl20 hcc20 (show 1 ≤ 6 from by decide) (x' := (⟨2, (rd_T40 y164 x6_1).f1, (rd_T40 y164 x6_1).f2, (rd_T40 y164 x6_1).f3, (rd_T40 y164 x6_1).f4, (rd_T40 y164 x6_1).f5⟩ : S40)) (k40_mkM _ _ _ (⟨2, (rd_T40 y164 x6_1).f1, (rd_T40 y164 x6_1).f2, (rd_T40 y164 x6_1).f3, (rd_T40 y164 x6_1).f4, (rd_T40 y164 x6_1).f5⟩ : S40) ) (fun _ hk => hk); have hx20_0 := hcc20 0 _ rfl; (try simp only [show (k40).sz = 6 from rfl, Nat.mul_one, Nat.add_zero] at hx20_0); have hf20_0 := hfr20 0; (try simp only [show (k40).sz = 6 from rfl, Nat.mul_one, Nat.add_zero] at hf20_0); clear hcl20 hcc20 hfr20 hM20) | ((with_reducible refine gate_store (t := 3) (p := 33) rfl ?_); refine store_event (t := 3) (p := 33) (v := ?vo_w21) (w1 := (w19.setCell ⟨go13, (x6_1 : Int).toNat * 6, none⟩ (.int .i64 2))) ?hg ?ho ?hn ?hr ?_; (case ho => rfl); (case hg => rfl); (case hn => rfl); (case hr => first | (go_simp; done) | (go_simp; rfl)); intro w21 hw; have hg : w19.grownBy w21 (some go13) := (by rw [hw]; exact HP20.2); have hp_ : Kd.R k40 40 w21 w.heap.size (fun _ => True) (.slice (some ⟨go13, 0, none⟩) x5_1.length co7) y165 := (by rw [hw, Ny165.out]; exact HP20.1); clear HP20; have n0_ := Aside0.mk (hp_); have n1_ := Aside0.mk ((by rw [hw]; exact below_set (HB.out) GB13.out : Below w.heap.size w w21)); clear HO_5; clear HB; have HO_5 := n0_; have HB := n1_; clear n0_ n1_; clear hg hw hp_))
                    go_roundg kj5
                    case measure => have := HK1.out; have := HJ5.out; omega
                    case rel => exact ⟨(y165), (wrap64 (x6_1 + 1)), (by first | rfl | (simp; done) | (simp [*]; done)), H', ⟨by have := HK1.out; have := HJ5.out; omega⟩, ⟨by (with_reducible repeat (first | apply Kd.R_alloc | apply Kd.R_drewN | apply Kd.R_drew)); exact HO_5.out⟩, ⟨by repeat (first | (with_reducible first | exact HB.out | apply below_alloc | apply pw_below_drewN | apply below_drew1) | exact HB.out)⟩⟩
                · rw [if_neg c12] at H
                  exact absurd H (by simp)
              · rw [if_neg c11] at H
                exact absurd H (by simp)
            · replace c10 := Bool.eq_false_iff.mpr c10
              subst c10
              have H1 : (if a1 = true then (interlocklaw08_RaceAlone.l0 kj5 a1 x5_1 (wrap64 (x6_1 + 1))) else (if 0 ≤ x6_1 then (if x6_1 < (x5_1.length : Int) then (interlocklaw08_RaceAlone.l0 kj5 a1 (x5_1.set (x6_1 : Int).toNat (⟨2, (rd_T40 x5_1 x6_1).f1, (rd_T40 x5_1 x6_1).f2, (rd_T40 x5_1 x6_1).f3, (rd_T40 x5_1 x6_1).f4, (rd_T40 x5_1 x6_1).f5⟩ : S40)) (wrap64 (x6_1 + 1))) else (none)) else (none))) = some r := by rw [if_neg (show ¬ (false = true) by decide)] at H; exact H
              clear H
              have H := H1
              clear H1
              by_cases c22 : a1 = true
              · subst c22
                have H1 : (interlocklaw08_RaceAlone.l0 kj5 true x5_1 (wrap64 (x6_1 + 1))) = some r := by rw [if_pos rfl] at H; exact H
                clear H
                have H := H1
                clear H1
                have H' := Aside0.mk H
                clear H
                go_wp2
                go_roundg kj5
                case measure => have := HK1.out; have := HJ5.out; omega
                case rel => exact ⟨(x5_1), (wrap64 (x6_1 + 1)), (by first | rfl | (simp; done) | (simp [*]; done)), H', ⟨by have := HK1.out; have := HJ5.out; omega⟩, ⟨by (with_reducible repeat (first | apply Kd.R_alloc | apply Kd.R_drewN | apply Kd.R_drew)); exact HO_5.out⟩, ⟨by repeat (first | (with_reducible first | exact HB.out | apply below_alloc | apply pw_below_drewN | apply below_drew1) | exact HB.out)⟩⟩
              · replace c22 := Bool.eq_false_iff.mpr c22
                subst c22
                have H1 : (if 0 ≤ x6_1 then (if x6_1 < (x5_1.length : Int) then (interlocklaw08_RaceAlone.l0 kj5 false (x5_1.set (x6_1 : Int).toNat (⟨2, (rd_T40 x5_1 x6_1).f1, (rd_T40 x5_1 x6_1).f2, (rd_T40 x5_1 x6_1).f3, (rd_T40 x5_1 x6_1).f4, (rd_T40 x5_1 x6_1).f5⟩ : S40)) (wrap64 (x6_1 + 1))) else (none)) else (none)) = some r := by rw [if_neg (show ¬ (false = true) by decide)] at H; exact H
                clear H
                have H := H1
                clear H1
                by_cases c23 : 0 ≤ x6_1
                · rw [if_pos c23] at H
                  have c23b0 : decide (0 ≤ x6_1) = true := decide_eq_true c23
                  clear c23
                  by_cases c24 : x6_1 < (x5_1.length : Int)
                  · rw [if_pos c24] at H
                    have c24b0 : decide (x6_1 < (x5_1.length : Int)) = true := decide_eq_true c24
                    clear c24
                    obtain ⟨y166, hy166⟩ : ∃ y_ : List (S40), y_ = (x5_1.set (x6_1 : Int).toNat (⟨2, (rd_T40 x5_1 x6_1).f1, (rd_T40 x5_1 x6_1).f2, (rd_T40 x5_1 x6_1).f3, (rd_T40 x5_1 x6_1).f4, (rd_T40 x5_1 x6_1).f5⟩ : S40)) := ⟨_, rfl⟩
                    replace H : (interlocklaw08_RaceAlone.l0 kj5 false y166 (wrap64 (x6_1 + 1))) = some r := by first | (rw [hy166]; with_reducible exact H) | (have H2_ := (Option.bind_some _ _).symm.trans H; rw [hy166]; with_reducible exact H2_) | (have H2_ := (Option.bind_some _ _).symm.trans H; with_reducible exact H2_) | with_reducible exact H | (rw [hy166]; exact H) | exact H
                    have Ny166 := Aside0.mk hy166
                    clear hy166
                    have H' := Aside0.mk H
                    clear H
                    have p25 : 0 ≤ (x6_1 : Int) := of_decide_eq_true (by first | (with_reducible assumption) | assumption)
                    have q25 : (x6_1 : Int) < ((x5_1.length : Int) : Int) := of_decide_eq_true (by first | (with_reducible assumption) | assumption)
                    obtain ⟨go25, co25, eo25, gb25, gl25, cl25, HG25⟩ := Kd.R_form HO_5.out (by omega)
                    (first | cases eo25 | (injection eo25 with ea_ en_ ec_; (first | subst ea_ | (injection ea_ with ea_; subst ea_)); subst ec_; clear en_))
                    have GB25 := Aside0.mk gb25
                    have GG25 := Aside0.mk HG25
                    clear gb25 gl25 HG25
                    obtain ⟨ce25, hcl25, hM25, hcc25, hfr25⟩ := Kd.R_elem HO_5.out z40 (x6_1 : Int) p25 q25
                    obtain rfl := k40_openM hM25
                    have hx25_0 : wc.cell? ⟨go25, (x6_1 : Int).toNat * 6, none⟩ = some (.int .i64 ((rd_T40 x5_1 x6_1).f0)) := hcc25 0 _ rfl
                    have hx25_1 : wc.cell? ⟨go25, (x6_1 : Int).toNat * 6 + 1, none⟩ = some (.int .i64 ((rd_T40 x5_1 x6_1).f1)) := hcc25 1 _ rfl
                    have hx25_2 : wc.cell? ⟨go25, (x6_1 : Int).toNat * 6 + 2, none⟩ = some (.int .u8 ((rd_T40 x5_1 x6_1).f2)) := hcc25 2 _ rfl
                    have hx25_3 : wc.cell? ⟨go25, (x6_1 : Int).toNat * 6 + 3, none⟩ = some (.int .i64 ((rd_T40 x5_1 x6_1).f3)) := hcc25 3 _ rfl
                    have hx25_4 : wc.cell? ⟨go25, (x6_1 : Int).toNat * 6 + 4, none⟩ = some (.int .i64 ((rd_T40 x5_1 x6_1).f4)) := hcc25 4 _ rfl
                    have hx25_5 : wc.cell? ⟨go25, (x6_1 : Int).toNat * 6 + 5, none⟩ = some (.int .i64 ((rd_T40 x5_1 x6_1).f5)) := hcc25 5 _ rfl
                    have hf25_0 : wc.frozen? ⟨go25, (x6_1 : Int).toNat * 6, none⟩ = false := hfr25 0
                    have hf25_1 : wc.frozen? ⟨go25, (x6_1 : Int).toNat * 6 + 1, none⟩ = false := hfr25 1
                    have hf25_2 : wc.frozen? ⟨go25, (x6_1 : Int).toNat * 6 + 2, none⟩ = false := hfr25 2
                    have hf25_3 : wc.frozen? ⟨go25, (x6_1 : Int).toNat * 6 + 3, none⟩ = false := hfr25 3
                    have hf25_4 : wc.frozen? ⟨go25, (x6_1 : Int).toNat * 6 + 4, none⟩ = false := hfr25 4
                    have hf25_5 : wc.frozen? ⟨go25, (x6_1 : Int).toNat * 6 + 5, none⟩ = false := hfr25 5
                    clear hcl25 hcc25 hfr25 hM25
                    replace p25 := eq_true p25
                    replace q25 := eq_true q25
                    have HX26 := Aside0.mk (show Kd.R k40 40 wc w.heap.size (fun _ => True) (.slice (some ⟨go25, 0, none⟩) x5_1.length co7) x5_1 from (by (with_reducible repeat (first | apply Kd.R_alloc | apply Kd.R_drewN | apply Kd.R_drew)); exact HO_5.out))
                    obtain ⟨ce26, hcl26, hM26, hcc26, hfr26⟩ := Kd.R_elem HX26.out z40 (x6_1 : Int) (of_decide_eq_true (by first | (with_reducible assumption) | assumption)) (by have h_ : (x6_1 : Int) < ((x5_1.length : Int) : Int) := of_decide_eq_true (by first | (with_reducible assumption) | assumption); first | exact h_ | (have e_ := (Kd.R_reads' HO_5.out).1; omega) | simpa using h_)
                    obtain rfl := k40_openM hM26
                    have HP26 := Kd.R_seg HX26.out (x6_1 : Int) (of_decide_eq_true (by first | (with_reducible assumption) | assumption)) (by have h_ : (x6_1 : Int) < ((x5_1.length : Int) : Int) := of_decide_eq_true (by first | (with_reducible assumption) | assumption); first | exact h_ | (have e_ := (Kd.R_reads' HO_5.out).1; omega) | simpa using h_) (seg := [.int .i64 2]) (j := 0) hcl26 hcc26 (show 1 ≤ 6 from by decide) (x' := (⟨2, (rd_T40 x5_1 x6_1).f1, (rd_T40 x5_1 x6_1).f2, (rd_T40 x5_1 x6_1).f3, (rd_T40 x5_1 x6_1).f4, (rd_T40 x5_1 x6_1).f5⟩ : S40)) (k40_mkM _ _ _ (⟨2, (rd_T40 x5_1 x6_1).f1, (rd_T40 x5_1 x6_1).f2, (rd_T40 x5_1 x6_1).f3, (rd_T40 x5_1 x6_1).f4, (rd_T40 x5_1 x6_1).f5⟩ : S40) ) (fun _ hk => hk)
                    have hx26_0 := hcc26 0 _ rfl
                    (try simp only [show (k40).sz = 6 from rfl, Nat.mul_one, Nat.add_zero] at hx26_0)
                    have hf26_0 := hfr26 0
                    (try simp only [show (k40).sz = 6 from rfl, Nat.mul_one, Nat.add_zero] at hf26_0)
                    clear hcl26 hcc26 hfr26 hM26
                    go_wp2_with (first | ((with_reducible refine gate_store (t := 3) (p := 33) rfl ?_); refine store_event (t := 3) (p := 33) (v := ?vo_w27) (w1 := (wc.setCell ⟨go25, (x6_1 : Int).toNat * 6, none⟩ (.int .i64 2))) ?hg ?ho ?hn ?hr ?_; (case ho => rfl); (case hg => rfl); (case hn => rfl); (case hr => first | (go_simp; done) | (go_simp; rfl)); intro w27 hw; have hg : wc.grownBy w27 (some go25) := (by rw [hw]; exact HP26.2); have hp_ : Kd.R k40 40 w27 w.heap.size (fun _ => True) (.slice (some ⟨go25, 0, none⟩) x5_1.length co7) y166 := (by rw [hw, Ny166.out]; exact HP26.1); clear HP26; have n0_ := Aside0.mk (hp_); have n1_ := Aside0.mk ((by rw [hw]; exact below_set (HB.out) GB25.out : Below w.heap.size w w27)); clear HO_5; clear HB; have HO_5 := n0_; have HB := n1_; clear n0_ n1_; clear hg hw hp_))
                    go_roundg kj5
                    case measure => have := HK1.out; have := HJ5.out; omega
                    case rel => exact ⟨(y166), (wrap64 (x6_1 + 1)), (by first | rfl | (simp; done) | (simp [*]; done)), H', ⟨by have := HK1.out; have := HJ5.out; omega⟩, ⟨by (with_reducible repeat (first | apply Kd.R_alloc | apply Kd.R_drewN | apply Kd.R_drew)); exact HO_5.out⟩, ⟨by repeat (first | (with_reducible first | exact HB.out | apply below_alloc | apply pw_below_drewN | apply below_drew1) | exact HB.out)⟩⟩
                  · rw [if_neg c24] at H
                    exact absurd H (by simp)
                · rw [if_neg c23] at H
                  exact absurd H (by simp)
      · rw [if_neg c5] at H
        have c5b0 : decide (x6_1 < (x5_1.length : Int)) = false := decide_eq_false c5
        clear c5
        replace H := Option.bind_eq_some_iff.mp H
        obtain ⟨t156, A280, H⟩ := H
        replace H : (if t156 = true then ((race_Find.f 0 0 0 (([1] : List Int)) 0 0 ([] : List (List (S25))) x5_1).bind fun t160 => (some ((t160.length : Int) == 0))) else (some false)) = some r := H
        have A28 := Aside0.mk A280
        clear A280
        by_cases c29 : t156 = true
        · subst c29
          have H1 : ((race_Find.f 0 0 0 (([1] : List Int)) 0 0 ([] : List (List (S25))) x5_1).bind fun t160 => (some ((t160.length : Int) == 0))) = some r := by rw [if_pos rfl] at H; exact H
          clear H
          have H := H1
          clear H1
          obtain ⟨y157, hy157⟩ : ∃ y_ : List Int, y_ = (([1] : List Int)) := ⟨_, rfl⟩
          replace H : ((race_Find.f 0 0 0 y157 0 0 ([] : List (List (S25))) x5_1).bind fun t160 => (some ((t160.length : Int) == 0))) = some r := by first | (rw [hy157]; with_reducible exact H) | (have H2_ := (Option.bind_some _ _).symm.trans H; rw [hy157]; with_reducible exact H2_) | (have H2_ := (Option.bind_some _ _).symm.trans H; with_reducible exact H2_) | with_reducible exact H | (rw [hy157]; exact H) | exact H
          have Ny157 := Aside0.mk hy157
          clear hy157
          replace H := Option.bind_eq_some_iff.mp H
          obtain ⟨t160, A300, H⟩ := H
          replace H : (some ((t160.length : Int) == 0)) = some r := H
          have A30 := Aside0.mk A300
          clear A300
          obtain rfl := Option.some.inj H
          obtain ⟨Ao31, co31, eo31⟩ := Kd.R_slice HO_5.out
          subst eo31
          go_wp2_with (first | ((with_reducible refine gate_callee (f := 12) rfl ?_); refine goesL_ (some 34) rfl rfl Try.func12 (by kernel_rfl) rfl #[] rfl (by (try simp only [List.map_toArray, List.map_cons, List.map_nil]); first | done | rfl | (simp only [List.length_drop, List.length_take]; rfl)) ?_; (with_reducible refine (interlocklaw08_known.calls  true _ A28.out).mono ?_); rintro e w32 ⟨rfl, hb⟩; refine ⟨_, rfl, ?_⟩; have n0_ := Aside0.mk (Kd.R_below (by (with_reducible repeat (first | apply Kd.R_alloc | apply Kd.R_drewN | apply Kd.R_drew)); exact HO_5.out) hb); have n1_ := Aside0.mk (below_step (by repeat (first | (with_reducible first | exact HB.out | apply below_alloc | apply pw_below_drewN | apply below_drew1) | exact HB.out)) hb); clear HO_5; clear HB; have HO_5 := n0_; have HB := n1_; clear n0_ n1_; (try clear hb); (try clear hb2); (try clear hk); (try clear hi)) | ((with_reducible refine gate_dst (N := 36) rfl ?_); (try (refine gate_guard (by rfl) ?_; dsimp only)); refine Kd.R_lit (Kd.int .i64) _ 3 ?hg (N := 36) ?hd (xs := ([1] : List Int)) (inner := [.int .i64 1]) (ok := fun _ => True) (okp := fun _ => True) ?hr ?hp (fun _ hk => hk) trivial (Below.refl _ _) (Nat.le_refl _) (by simp) ?_; (case hd => rfl); (case hg => rfl); (case hr => first | (go_simp; done) | (go_simp; rfl)); (case hp => exact (Reps.one (show Kd.M (Kd.int .i64) _ _ _ 1 [.int .i64 1] from rfl) (Reps.none _ _))); intro v158 w33 ho34 hb hg_ hnew_; clear hg_ hnew_; (first | rw [← Ny157.out] at ho34 | (simp only [Int.reduceToNat] at ho34; rw [← Ny157.out] at ho34)); have n0_ := Aside0.mk (Kd.R_below (by (with_reducible repeat (first | apply Kd.R_alloc | apply Kd.R_drewN | apply Kd.R_drew)); exact HO_5.out) hb); have n1_ := Aside0.mk (Kd.R_lower ho34 (below_size (by repeat (first | (with_reducible first | exact HB.out | apply below_alloc | apply pw_below_drewN | apply below_drew1) | exact HB.out)))); have n2_ := Aside0.mk (below_step (by repeat (first | (with_reducible first | exact HB.out | apply below_alloc | apply pw_below_drewN | apply below_drew1) | exact HB.out)) hb); clear HO_5; clear HB; have HO_5 := n0_; have HO159 := n1_; have HB := n2_; clear n0_ n1_ n2_; clear hb ho34; obtain ⟨Ao35, co35, eo35⟩ := Kd.R_slice HO159.out; subst eo35) | (go_at_call 17; (refine (race_Find.calls 0 0 0 _ _ y157 0 0 _ _ ([] : List (List (S25))) _ _ x5_1 t160 _ ?side1 ?side2 ?side3 ?side4 ?side5 ?side6 A30.out).mono ?_); (case side1 => repeat (first | exact (Kd.R_reads' HO159.out).2.2 | (with_reducible refine Kd.C_alloc ?_ _) | (with_reducible refine Kd.C_drewN ?_ _) | (with_reducible refine Kd.C_drew ?_))); (case side2 => exact (Kd.R_reads' HO159.out).2.1); (case side3 => exact Kd.C_nil _ _); (case side4 => exact Nat.le_refl _); (case side5 => repeat (first | exact (Kd.R_reads' HO_5.out).2.2 | (with_reducible refine Kd.C_alloc ?_ _) | (with_reducible refine Kd.C_drewN ?_ _) | (with_reducible refine Kd.C_drew ?_))); (case side6 => exact (Kd.R_reads' HO_5.out).2.1); rintro e w36 ⟨v161, rfl, ho0, hb⟩; clear A30; have n0_ := Aside0.mk (Kd.R_below (by (with_reducible repeat (first | apply Kd.R_alloc | apply Kd.R_drewN | apply Kd.R_drew)); exact HO_5.out) hb); have n1_ := Aside0.mk (Kd.R_below (by (with_reducible repeat (first | apply Kd.R_alloc | apply Kd.R_drewN | apply Kd.R_drew)); exact HO159.out) hb); have n2_ := Aside0.mk (Kd.R_lower ho0 (below_size (by repeat (first | (with_reducible first | exact HB.out | apply below_alloc | apply pw_below_drewN | apply below_drew1) | exact HB.out)))); have n3_ := Aside0.mk (below_step (by repeat (first | (with_reducible first | exact HB.out | apply below_alloc | apply pw_below_drewN | apply below_drew1) | exact HB.out)) hb); clear HO_5; clear HO159; clear HB; have HO_5 := n0_; have HO159 := n1_; have HO162 := n2_; have HB := n3_; clear n0_ n1_ n2_ n3_; (try clear hb); (try clear hb2); (try clear hk); (try clear hi); (try clear ho0); obtain ⟨Ao37, co37, eo37⟩ := Kd.R_slice HO162.out; subst eo37))
          go_ret
          exact ⟨by first | rfl | (simp [errW_none, errW_some] <;> rfl) | (simp [*, errW_none, errW_some] <;> rfl), by repeat (first | (with_reducible first | exact HB.out | apply below_alloc | apply pw_below_drewN | apply below_drew1) | exact HB.out)⟩
        · replace c29 := Bool.eq_false_iff.mpr c29
          subst c29
          have H1 : (some false) = some r := by rw [if_neg (show ¬ (false = true) by decide)] at H; exact H
          clear H
          have H := H1
          clear H1
          obtain rfl := Option.some.inj H
          obtain ⟨Ao38, co38, eo38⟩ := Kd.R_slice HO_5.out
          subst eo38
          go_wp2_with (first | ((with_reducible refine gate_callee (f := 12) rfl ?_); refine goesL_ (some 34) rfl rfl Try.func12 (by kernel_rfl) rfl #[] rfl (by (try simp only [List.map_toArray, List.map_cons, List.map_nil]); first | done | rfl | (simp only [List.length_drop, List.length_take]; rfl)) ?_; (with_reducible refine (interlocklaw08_known.calls  false _ A28.out).mono ?_); rintro e w39 ⟨rfl, hb⟩; refine ⟨_, rfl, ?_⟩; have n0_ := Aside0.mk (Kd.R_below (by (with_reducible repeat (first | apply Kd.R_alloc | apply Kd.R_drewN | apply Kd.R_drew)); exact HO_5.out) hb); have n1_ := Aside0.mk (below_step (by repeat (first | (with_reducible first | exact HB.out | apply below_alloc | apply pw_below_drewN | apply below_drew1) | exact HB.out)) hb); clear HO_5; clear HB; have HO_5 := n0_; have HB := n1_; clear n0_ n1_; (try clear hb); (try clear hb2); (try clear hk); (try clear hi)))
          go_ret
          exact ⟨by first | rfl | (simp [errW_none, errW_some] <;> rfl) | (simp [*, errW_none, errW_some] <;> rfl), by repeat (first | (with_reducible first | exact HB.out | apply below_alloc | apply pw_below_drewN | apply below_drew1) | exact HB.out)⟩

/-! ### interlocklaw08_RaceLocked: function 10 -/
mutual
def interlocklaw08_RaceLocked.l0 : Nat → List (S61) → List (S40) → Int → Option (Bool)
  | 0, _, _, _ => none
  | k + 1, x0, x3, x4 => if x4 < (x0.length : Int) then (interlocklaw08_RaceLocked.j1 k x0 x3 x4 (decide (x4 < 20))) else (interlocklaw08_RaceLocked.j1 k x0 x3 x4 false)
def interlocklaw08_RaceLocked.j1 : Nat → List (S61) → List (S40) → Int → Bool → Option (Bool)
  | 0, _, _, _, _ => none
  | k + 1, x0, x3, x4, x14 => if x14 = true then (if 0 ≤ x4 then (if x4 < (x0.length : Int) then (if (Int.tmod ((rd_T61 x0 x4).f0) 2) = 0 then ((some (([(⟨wrap64 (Int.tmod ((rd_T61 x0 x4).f1) 3), 0, 13, 0, 0, 0⟩ : S40), (⟨wrap64 (Int.tmod ((rd_T61 x0 x4).f1) 3), 0, 8, (Int.tdiv ((rd_T61 x0 x4).f1) 4) % 2, 0, 0⟩ : S40), (⟨wrap64 (Int.tmod ((rd_T61 x0 x4).f1) 3), 0, 14, 0, 0, 0⟩ : S40)] : List (S40)) : List (S40))).bind fun y170 => (if x3.length + y170.length < 2932031007402 then (interlocklaw08_RaceLocked.l0 k x0 (x3 ++ y170) (wrap64 (x4 + 1))) else (none))) else ((some (([(⟨wrap64 (Int.tmod ((rd_T61 x0 x4).f1) 3), 0, 13, 0, 0, 0⟩ : S40), (⟨wrap64 (Int.tmod ((rd_T61 x0 x4).f1) 3), 0, 7, (Int.tdiv ((rd_T61 x0 x4).f1) 4) % 2, 0, 0⟩ : S40), (⟨wrap64 (Int.tmod ((rd_T61 x0 x4).f1) 3), 0, 14, 0, 0, 0⟩ : S40)] : List (S40)) : List (S40))).bind fun y177 => (if x3.length + y177.length < 2932031007402 then (interlocklaw08_RaceLocked.l0 k x0 (x3 ++ y177) (wrap64 (x4 + 1))) else (none)))) else (none)) else (none)) else ((interlocklaw08_known.f).bind fun t183 => (if t183 = true then ((race_Find.f 0 0 1 ([] : List Int) 0 0 ([] : List (List (S25))) x3).bind fun t184 => (some ((t184.length : Int) == 0))) else (some false)))
end
def interlocklaw08_RaceLocked.f (k : Nat) (l0 : List (S61)) : Option (Bool) := interlocklaw08_RaceLocked.l0 k l0 ([] : List (S40)) 0
theorem interlocklaw08_RaceLocked.mono_l : ∀ k, (∀ y0 y1 y2, LeO (interlocklaw08_RaceLocked.l0 k y0 y1 y2) (interlocklaw08_RaceLocked.l0 (k + 1) y0 y1 y2)) ∧ (∀ y0 y1 y2 y3, LeO (interlocklaw08_RaceLocked.j1 k y0 y1 y2 y3) (interlocklaw08_RaceLocked.j1 (k + 1) y0 y1 y2 y3))
  | 0 => ⟨fun _ _ _ r h => by simp [interlocklaw08_RaceLocked.l0] at h, fun _ _ _ _ r h => by simp [interlocklaw08_RaceLocked.j1] at h⟩
  | k + 1 => by
    obtain ⟨ih0, ih1⟩ := interlocklaw08_RaceLocked.mono_l k
    refine ⟨?_, ?_⟩
    · intro y0 y1 y2
      unfold interlocklaw08_RaceLocked.l0
      repeat' first
      | (with_reducible exact ih0 _ _ _)
      | (with_reducible exact ih1 _ _ _ _)
      | (with_reducible exact LeO.refl _)
      | (with_reducible exact LeO.none _)
      | (with_reducible refine LeO.ite ?_ ?_)
      | (with_reducible refine LeO.bind ?_ (fun _ => ?_))
      | exact ih0 _ _ _
      | exact ih1 _ _ _ _
      | exact LeO.none _
      | refine LeO.ite ?_ ?_
      | refine LeO.bind ?_ (fun _ => ?_)
    · intro y0 y1 y2 y3
      unfold interlocklaw08_RaceLocked.j1
      repeat' first
      | (with_reducible exact ih0 _ _ _)
      | (with_reducible exact ih1 _ _ _ _)
      | (with_reducible exact LeO.refl _)
      | (with_reducible exact LeO.none _)
      | (with_reducible refine LeO.ite ?_ ?_)
      | (with_reducible refine LeO.bind ?_ (fun _ => ?_))
      | exact ih0 _ _ _
      | exact ih1 _ _ _ _
      | exact LeO.none _
      | refine LeO.ite ?_ ?_
      | refine LeO.bind ?_ (fun _ => ?_)
theorem interlocklaw08_RaceLocked.mono : ∀ a0 k, LeO (interlocklaw08_RaceLocked.f k a0) (interlocklaw08_RaceLocked.f (k + 1) a0) := by
  intro a0 k
  obtain ⟨ih0, ih1⟩ := interlocklaw08_RaceLocked.mono_l k
  unfold interlocklaw08_RaceLocked.f
  repeat' first
      | (with_reducible exact ih0 _ _ _)
      | (with_reducible exact ih1 _ _ _ _)
      | (with_reducible exact LeO.refl _)
      | (with_reducible exact LeO.none _)
      | (with_reducible refine LeO.ite ?_ ?_)
      | (with_reducible refine LeO.bind ?_ (fun _ => ?_))
      | exact ih0 _ _ _
      | exact ih1 _ _ _ _
      | exact LeO.none _
      | refine LeO.ite ?_ ?_
      | refine LeO.bind ?_ (fun _ => ?_)
set_option maxHeartbeats 8000000 in
set_option maxRecDepth 100000 in
theorem interlocklaw08_RaceLocked.calls (k : Nat) (A0 : Option Addr) (c0 : Nat) (l0 : List (S61)) (r : Bool) (w : World) (hr0 : Kd.C k61 w A0 l0.length l0) (hc0 : l0.length ≤ c0) (h : interlocklaw08_RaceLocked.f k l0 = some r) :
    Calls Try.prog 10 #[.slice A0 l0.length c0] w fun e w' => e = .returned (.bool r) ∧ Below w.heap.size w w' := by
  have hu40 := Try.underlying40
  have hu29 := Try.underlying29
  have HR0 := Aside0.mk hr0
  have HC0 := Aside0.mk hc0
  clear hr0 hc0
  have HB := Aside0.mk (Below.refl w.heap.size w)
  have H : (interlocklaw08_RaceLocked.l0 k l0 ([] : List (S40)) 0) = some r := h
  clear h
  have H' := Aside0.mk H
  clear H
  go_enter Try.func10, Try.ntmps10
  go_wp2
  go_loopg [3, 4] k (fun kq v3 v4 w' => ∃ (x3_1 : List (S40)) (x4_1 : Int), v4 = .int .i64 x4_1 ∧ Aside0 (interlocklaw08_RaceLocked.l0 kq l0 x3_1 x4_1 = some r) ∧ Aside0 (kq ≤ k) ∧ Aside0 (Kd.R k40 40 w' w.heap.size (fun _ => True) v3 x3_1) ∧ Aside0 (Below w.heap.size w w'))
  case atStart => exact ⟨(([] : List (S40))), (0), (by first | rfl | (simp; done) | (simp [*]; done)), H', ⟨Nat.le_refl _⟩, ⟨by first | exact Kd.R_nil _ _ _ _ _ | exact Kd.N_nil _ _ _ _ _ | exact Kd.V_nil _ _ _ _ _ | exact Kd.Q_nil _ _ _ _ _ | exact Kd.S_nil _ _ _ _ _⟩, ⟨by repeat (first | (with_reducible first | exact HB.out | apply below_alloc | apply pw_below_drewN | apply below_drew1) | exact HB.out)⟩⟩
  case round =>
    clear H'
    try clear c1
    obtain ⟨x3_1, x4_1, rfl, HA, HK1, HO_3, HB⟩ := hrel
    cases gk with
    | zero => exact absurd HA.out (by simp [interlocklaw08_RaceLocked.l0])
    | succ k1 =>
      have H := HA.out
      clear HA
      simp only [interlocklaw08_RaceLocked.l0] at H
      have HC2 := Aside0.mk H
      clear H
      go_upto_region 3 with (fail)
      go_cut [14] (fun v14 wc => ∃ (kq : Nat) (x14_1 : Bool), v14 = .bool x14_1 ∧ Aside0 (interlocklaw08_RaceLocked.j1 kq l0 x3_1 x4_1 x14_1 = some r) ∧ Aside0 (kq ≤ k1) ∧ Aside0 (Kd.R k40 40 wc w.heap.size (fun _ => True) u3 x3_1) ∧ Aside0 (Below w.heap.size w wc))
      case first =>
        have H := HC2.out
        clear HC2
        by_cases c3 : x4_1 < (l0.length : Int)
        · rw [if_pos c3] at H
          have c3b0 : decide (x4_1 < (l0.length : Int)) = true := decide_eq_true c3
          clear c3
          (first | rw [c3b0] | (simp only [i64_w, i32_w]; rw [c3b0]) | skip)
          have H' := Aside0.mk H
          clear H
          go_wp2
          go_meet
          case rel => exact ⟨_, (decide (x4_1 < 20)), (by first | rfl | (simp; done) | (simp [*]; done)), H', ⟨by have := HK1.out; first | omega | exact Nat.le_refl _⟩, ⟨by (with_reducible repeat (first | apply Kd.R_alloc | apply Kd.R_drewN | apply Kd.R_drew)); exact HO_3.out⟩, ⟨by repeat (first | (with_reducible first | exact HB.out | apply below_alloc | apply pw_below_drewN | apply below_drew1) | exact HB.out)⟩⟩
        · rw [if_neg c3] at H
          have c3b0 : decide (x4_1 < (l0.length : Int)) = false := decide_eq_false c3
          clear c3
          (first | rw [c3b0] | (simp only [i64_w, i32_w]; rw [c3b0]) | skip)
          have H' := Aside0.mk H
          clear H
          go_wp2
          go_meet
          case rel => exact ⟨_, (false), (by first | rfl | (simp; done) | (simp [*]; done)), H', ⟨by have := HK1.out; first | omega | exact Nat.le_refl _⟩, ⟨by (with_reducible repeat (first | apply Kd.R_alloc | apply Kd.R_drewN | apply Kd.R_drew)); exact HO_3.out⟩, ⟨by repeat (first | (with_reducible first | exact HB.out | apply below_alloc | apply pw_below_drewN | apply below_drew1) | exact HB.out)⟩⟩
      case rest =>
        clear HC2
        try clear c1
        try clear p2
        try clear c3
        try clear c3b0
        obtain ⟨kq, x14_1, rfl, HA, HJ1, HO_3, HB⟩ := hcut
        cases kq with
        | zero => exact absurd HA.out (by simp [interlocklaw08_RaceLocked.j1])
        | succ kj1 =>
          have H := HA.out
          clear HA
          simp only [interlocklaw08_RaceLocked.j1] at H
          by_cases c4 : x14_1 = true
          · subst c4
            have H1 : (if 0 ≤ x4_1 then (if x4_1 < (l0.length : Int) then (if (Int.tmod ((rd_T61 l0 x4_1).f0) 2) = 0 then ((some (([(⟨wrap64 (Int.tmod ((rd_T61 l0 x4_1).f1) 3), 0, 13, 0, 0, 0⟩ : S40), (⟨wrap64 (Int.tmod ((rd_T61 l0 x4_1).f1) 3), 0, 8, (Int.tdiv ((rd_T61 l0 x4_1).f1) 4) % 2, 0, 0⟩ : S40), (⟨wrap64 (Int.tmod ((rd_T61 l0 x4_1).f1) 3), 0, 14, 0, 0, 0⟩ : S40)] : List (S40)) : List (S40))).bind fun y170 => (if x3_1.length + y170.length < 2932031007402 then (interlocklaw08_RaceLocked.l0 kj1 l0 (x3_1 ++ y170) (wrap64 (x4_1 + 1))) else (none))) else ((some (([(⟨wrap64 (Int.tmod ((rd_T61 l0 x4_1).f1) 3), 0, 13, 0, 0, 0⟩ : S40), (⟨wrap64 (Int.tmod ((rd_T61 l0 x4_1).f1) 3), 0, 7, (Int.tdiv ((rd_T61 l0 x4_1).f1) 4) % 2, 0, 0⟩ : S40), (⟨wrap64 (Int.tmod ((rd_T61 l0 x4_1).f1) 3), 0, 14, 0, 0, 0⟩ : S40)] : List (S40)) : List (S40))).bind fun y177 => (if x3_1.length + y177.length < 2932031007402 then (interlocklaw08_RaceLocked.l0 kj1 l0 (x3_1 ++ y177) (wrap64 (x4_1 + 1))) else (none)))) else (none)) else (none)) = some r := by rw [if_pos rfl] at H; exact H
            clear H
            have H := H1
            clear H1
            by_cases c5 : 0 ≤ x4_1
            · rw [if_pos c5] at H
              have c5b0 : decide (0 ≤ x4_1) = true := decide_eq_true c5
              clear c5
              by_cases c6 : x4_1 < (l0.length : Int)
              · rw [if_pos c6] at H
                have c6b0 : decide (x4_1 < (l0.length : Int)) = true := decide_eq_true c6
                clear c6
                by_cases c7 : (Int.tmod ((rd_T61 l0 x4_1).f0) 2) = 0
                · rw [if_pos c7] at H
                  have c7b0 : ((Int.tmod ((rd_T61 l0 x4_1).f0) 2) == 0) = true := beq_iff_eq.mpr c7
                  have c7b1 : ((Int.tmod ((rd_T61 l0 x4_1).f0) 2) != 0) = false := bne_eq_false_iff_eq.mpr c7
                  clear c7
                  obtain ⟨y170, hy170⟩ : ∃ y_ : List (S40), y_ = (([(⟨wrap64 (Int.tmod ((rd_T61 l0 x4_1).f1) 3), 0, 13, 0, 0, 0⟩ : S40), (⟨wrap64 (Int.tmod ((rd_T61 l0 x4_1).f1) 3), 0, 8, (Int.tdiv ((rd_T61 l0 x4_1).f1) 4) % 2, 0, 0⟩ : S40), (⟨wrap64 (Int.tmod ((rd_T61 l0 x4_1).f1) 3), 0, 14, 0, 0, 0⟩ : S40)] : List (S40))) := ⟨_, rfl⟩
                  replace H : (if x3_1.length + y170.length < 2932031007402 then (interlocklaw08_RaceLocked.l0 kj1 l0 (x3_1 ++ y170) (wrap64 (x4_1 + 1))) else (none)) = some r := by first | (rw [hy170]; with_reducible exact H) | (have H2_ := (Option.bind_some _ _).symm.trans H; rw [hy170]; with_reducible exact H2_) | (have H2_ := (Option.bind_some _ _).symm.trans H; with_reducible exact H2_) | with_reducible exact H | (rw [hy170]; exact H) | exact H
                  have Ny170 := Aside0.mk hy170
                  clear hy170
                  by_cases c8 : x3_1.length + y170.length < 2932031007402
                  · rw [if_pos c8] at H
                    have LMc8 := Aside0.mk c8
                    clear c8
                    obtain ⟨y173, hy173⟩ : ∃ y_ : List (S40), y_ = (x3_1 ++ y170) := ⟨_, rfl⟩
                    replace H : (interlocklaw08_RaceLocked.l0 kj1 l0 y173 (wrap64 (x4_1 + 1))) = some r := by first | (rw [hy173]; with_reducible exact H) | (have H2_ := (Option.bind_some _ _).symm.trans H; rw [hy173]; with_reducible exact H2_) | (have H2_ := (Option.bind_some _ _).symm.trans H; with_reducible exact H2_) | with_reducible exact H | (rw [hy173]; exact H) | exact H
                    have Ny173 := Aside0.mk hy173
                    clear hy173
                    have H' := Aside0.mk H
                    clear H
                    have p167 : 0 ≤ (x4_1 : Int) := of_decide_eq_true (by first | (with_reducible assumption) | assumption)
                    have q167 : x4_1 < (l0.length : Int) := of_decide_eq_true (by first | (with_reducible assumption) | assumption)
                    obtain ⟨ad167, e167, hx167_0, hx167_1⟩ := at_T61 HR0.out x4_1 p167 q167
                    cases e167
                    replace hx167_0 := (HB.out.cell (World.block_lt_of_cell? w _ hx167_0)).trans hx167_0
                    replace hx167_1 := (HB.out.cell (World.block_lt_of_cell? w _ hx167_1)).trans hx167_1
                    replace p167 := eq_true p167
                    replace q167 := eq_true q167
                    have p168 : 0 ≤ (x4_1 : Int) := of_decide_eq_true (by first | (with_reducible assumption) | assumption)
                    have q168 : x4_1 < (l0.length : Int) := of_decide_eq_true (by first | (with_reducible assumption) | assumption)
                    obtain ⟨ad168, e168, hx168_0, hx168_1⟩ := at_T61 HR0.out x4_1 p168 q168
                    obtain rfl : ad167 = ad168 := (by injection e168)
                    replace hx168_0 := (HB.out.cell (World.block_lt_of_cell? w _ hx168_0)).trans hx168_0
                    replace hx168_1 := (HB.out.cell (World.block_lt_of_cell? w _ hx168_1)).trans hx168_1
                    replace p168 := eq_true p168
                    replace q168 := eq_true q168
                    have p169 : 0 ≤ (x4_1 : Int) := of_decide_eq_true (by first | (with_reducible assumption) | assumption)
                    have q169 : x4_1 < (l0.length : Int) := of_decide_eq_true (by first | (with_reducible assumption) | assumption)
                    obtain ⟨ad169, e169, hx169_0, hx169_1⟩ := at_T61 HR0.out x4_1 p169 q169
                    obtain rfl : ad167 = ad169 := (by injection e169)
                    replace hx169_0 := (HB.out.cell (World.block_lt_of_cell? w _ hx169_0)).trans hx169_0
                    replace hx169_1 := (HB.out.cell (World.block_lt_of_cell? w _ hx169_1)).trans hx169_1
                    replace p169 := eq_true p169
                    replace q169 := eq_true q169
                    go_wp2_with (first | ((with_reducible refine gate_dst (N := 47) rfl ?_); (try (refine gate_guard (by rfl) ?_; dsimp only)); refine Kd.R_lit k40 _ 40 ?hg (N := 47) ?hd (xs := ([(⟨wrap64 (Int.tmod ((rd_T61 l0 x4_1).f1) 3), 0, 13, 0, 0, 0⟩ : S40), (⟨wrap64 (Int.tmod ((rd_T61 l0 x4_1).f1) 3), 0, 8, (Int.tdiv ((rd_T61 l0 x4_1).f1) 4) % 2, 0, 0⟩ : S40), (⟨wrap64 (Int.tmod ((rd_T61 l0 x4_1).f1) 3), 0, 14, 0, 0, 0⟩ : S40)] : List (S40))) (inner := [.int .i64 (wrap64 (Int.tmod ((rd_T61 l0 x4_1).f1) 3)), .int .i64 0, .int .u8 13, .int .i64 0, .int .i64 0, .int .i64 0, .int .i64 (wrap64 (Int.tmod ((rd_T61 l0 x4_1).f1) 3)), .int .i64 0, .int .u8 8, .int .i64 ((Int.tdiv ((rd_T61 l0 x4_1).f1) 4) % 2), .int .i64 0, .int .i64 0, .int .i64 (wrap64 (Int.tmod ((rd_T61 l0 x4_1).f1) 3)), .int .i64 0, .int .u8 14, .int .i64 0, .int .i64 0, .int .i64 0]) (ok := fun _ => True) (okp := fun _ => True) ?hr ?hp (fun _ hk => hk) trivial (Below.refl _ _) (Nat.le_refl _) (by simp) ?_; (case hd => rfl); (case hg => rfl); (case hr => first | (go_simp; done) | (go_simp; rfl)); (case hp => exact (Reps.c6 (show Kd.M k40 _ _ _ (⟨wrap64 (Int.tmod ((rd_T61 l0 x4_1).f1) 3), 0, 13, 0, 0, 0⟩ : S40) [.int .i64 (wrap64 (Int.tmod ((rd_T61 l0 x4_1).f1) 3)), .int .i64 0, .int .u8 13, .int .i64 0, .int .i64 0, .int .i64 0] from (k40_mkM _ _ _ (⟨wrap64 (Int.tmod ((rd_T61 l0 x4_1).f1) 3), 0, 13, 0, 0, 0⟩ : S40) )) (Reps.c6 (show Kd.M k40 _ _ _ (⟨wrap64 (Int.tmod ((rd_T61 l0 x4_1).f1) 3), 0, 8, (Int.tdiv ((rd_T61 l0 x4_1).f1) 4) % 2, 0, 0⟩ : S40) [.int .i64 (wrap64 (Int.tmod ((rd_T61 l0 x4_1).f1) 3)), .int .i64 0, .int .u8 8, .int .i64 ((Int.tdiv ((rd_T61 l0 x4_1).f1) 4) % 2), .int .i64 0, .int .i64 0] from (k40_mkM _ _ _ (⟨wrap64 (Int.tmod ((rd_T61 l0 x4_1).f1) 3), 0, 8, (Int.tdiv ((rd_T61 l0 x4_1).f1) 4) % 2, 0, 0⟩ : S40) )) (Reps.c6 (show Kd.M k40 _ _ _ (⟨wrap64 (Int.tmod ((rd_T61 l0 x4_1).f1) 3), 0, 14, 0, 0, 0⟩ : S40) [.int .i64 (wrap64 (Int.tmod ((rd_T61 l0 x4_1).f1) 3)), .int .i64 0, .int .u8 14, .int .i64 0, .int .i64 0, .int .i64 0] from (k40_mkM _ _ _ (⟨wrap64 (Int.tmod ((rd_T61 l0 x4_1).f1) 3), 0, 14, 0, 0, 0⟩ : S40) )) (Reps.none _ _))))); intro v171 w9 ho10 hb hg_ hnew_; clear hg_ hnew_; (first | rw [← Ny170.out] at ho10 | (simp only [Int.reduceToNat] at ho10; rw [← Ny170.out] at ho10)); have n0_ := Aside0.mk (Kd.R_elder' (by (with_reducible repeat (first | apply Kd.R_alloc | apply Kd.R_drewN | apply Kd.R_drew)); exact HO_3.out) (Kd.R_base ho10) hb); have n1_ := Aside0.mk (Kd.R_lower (Kd.R_new' ho10 (Kd.R_lt (by (with_reducible repeat (first | apply Kd.R_alloc | apply Kd.R_drewN | apply Kd.R_drew)); exact HO_3.out))) (below_size (by repeat (first | (with_reducible first | exact HB.out | apply below_alloc | apply pw_below_drewN | apply below_drew1) | exact HB.out)))); have n2_ := Aside0.mk (below_step (by repeat (first | (with_reducible first | exact HB.out | apply below_alloc | apply pw_below_drewN | apply below_drew1) | exact HB.out)) hb); clear HO_3; clear HB; have HO_3 := n0_; have HO172 := n1_; have HB := n2_; clear n0_ n1_ n2_; clear hb ho10; obtain ⟨Ao12, co12, eo12⟩ := Kd.R_slice HO172.out; subst eo12) | ((with_reducible refine gate_builtin (b := .append) (xs := #[.tmp 31, .tmp 47]) rfl ?_); (try (refine gate_guard (by rfl) ?_; dsimp only)); at_builtin; refine Kd.R_append_rows k40 (w0 := w) w.heap.size rfl (.tmp 31) (.tmp 47) 30 40 (.agg #[(.int .i64 0), (.int .i64 0), (.int .u8 0), (.int .i64 0), (.int .i64 0), (.int .i64 0)]) 48 rfl Try.underlying30 info40 rfl (by decide) (by omega) u3 x3_1 y170 _ _ _ (fun k_ => some k_ ≠ (.slice Ao12 y170.length co12 : Value).ownBlock) (fun _ => False) rfl rfl ?aO ?aR (fun _ _ h => h) (fun _ h => h.elim) ?aF ?aB ?aS ?aL ?_; (case aR => repeat (first | exact (Kd.R_reads' HO172.out).2.2 | (with_reducible refine Kd.C_alloc ?_ _) | (with_reducible refine Kd.C_drewN ?_ _) | (with_reducible refine Kd.C_drew ?_))); (case aB => exact (by repeat (first | (with_reducible first | exact HB.out | apply below_alloc | apply pw_below_drewN | apply below_drew1) | exact HB.out))); (case aF => exact (fun k_ hk => Kd.fresh' (Kd.R_lt (by (with_reducible repeat (first | apply Kd.R_alloc | apply Kd.R_drewN | apply Kd.R_drew)); exact HO172.out)) k_ hk)); (case aO => exact (by (with_reducible repeat (first | apply Kd.R_alloc | apply Kd.R_drewN | apply Kd.R_drew)); exact Kd.R_mono HO_3.out (fun _ hk => hk.2))); (case aS => exact (below_size (by repeat (first | (with_reducible first | exact HB.out | apply below_alloc | apply pw_below_drewN | apply below_drew1) | exact HB.out)))); (case aL => have := LMc8.out; omega); intro v174 w11 ho hb hg hat; rw [← Ny173.out] at ho; have n0_ := Aside0.mk (Kd.R_after (ok := (fun _ => True)) (by (with_reducible repeat (first | apply Kd.R_alloc | apply Kd.R_drewN | apply Kd.R_drew)); exact HO172.out) hg hat); have n1_ := Aside0.mk (hb); have n2_ := Aside0.mk (ho); clear HO172; clear HB; clear HO_3; have HO172 := n0_; have HB := n1_; have HO175 := n2_; clear n0_ n1_ n2_; clear ho hb hg hat))
                    go_roundg kj1
                    case measure => have := HK1.out; have := HJ1.out; omega
                    case rel => exact ⟨(y173), (wrap64 (x4_1 + 1)), (by first | rfl | (simp; done) | (simp [*]; done)), H', ⟨by have := HK1.out; have := HJ1.out; omega⟩, ⟨by (with_reducible repeat (first | apply Kd.R_alloc | apply Kd.R_drewN | apply Kd.R_drew)); exact Kd.R_mono HO175.out (fun _ hk => trivial)⟩, ⟨by repeat (first | (with_reducible first | exact HB.out | apply below_alloc | apply pw_below_drewN | apply below_drew1) | exact HB.out)⟩⟩
                  · rw [if_neg c8] at H
                    exact absurd H (by simp)
                · rw [if_neg c7] at H
                  have c7b0 : ((Int.tmod ((rd_T61 l0 x4_1).f0) 2) == 0) = false := beq_eq_false_iff_ne.mpr c7
                  have c7b1 : ((Int.tmod ((rd_T61 l0 x4_1).f0) 2) != 0) = true := bne_iff_ne.mpr c7
                  obtain ⟨y177, hy177⟩ : ∃ y_ : List (S40), y_ = (([(⟨wrap64 (Int.tmod ((rd_T61 l0 x4_1).f1) 3), 0, 13, 0, 0, 0⟩ : S40), (⟨wrap64 (Int.tmod ((rd_T61 l0 x4_1).f1) 3), 0, 7, (Int.tdiv ((rd_T61 l0 x4_1).f1) 4) % 2, 0, 0⟩ : S40), (⟨wrap64 (Int.tmod ((rd_T61 l0 x4_1).f1) 3), 0, 14, 0, 0, 0⟩ : S40)] : List (S40))) := ⟨_, rfl⟩
                  replace H : (if x3_1.length + y177.length < 2932031007402 then (interlocklaw08_RaceLocked.l0 kj1 l0 (x3_1 ++ y177) (wrap64 (x4_1 + 1))) else (none)) = some r := by first | (rw [hy177]; with_reducible exact H) | (have H2_ := (Option.bind_some _ _).symm.trans H; rw [hy177]; with_reducible exact H2_) | (have H2_ := (Option.bind_some _ _).symm.trans H; with_reducible exact H2_) | with_reducible exact H | (rw [hy177]; exact H) | exact H
                  have Ny177 := Aside0.mk hy177
                  clear hy177
                  by_cases c13 : x3_1.length + y177.length < 2932031007402
                  · rw [if_pos c13] at H
                    have LMc13 := Aside0.mk c13
                    clear c13
                    obtain ⟨y180, hy180⟩ : ∃ y_ : List (S40), y_ = (x3_1 ++ y177) := ⟨_, rfl⟩
                    replace H : (interlocklaw08_RaceLocked.l0 kj1 l0 y180 (wrap64 (x4_1 + 1))) = some r := by first | (rw [hy180]; with_reducible exact H) | (have H2_ := (Option.bind_some _ _).symm.trans H; rw [hy180]; with_reducible exact H2_) | (have H2_ := (Option.bind_some _ _).symm.trans H; with_reducible exact H2_) | with_reducible exact H | (rw [hy180]; exact H) | exact H
                    have Ny180 := Aside0.mk hy180
                    clear hy180
                    have H' := Aside0.mk H
                    clear H
                    have p167 : 0 ≤ (x4_1 : Int) := of_decide_eq_true (by first | (with_reducible assumption) | assumption)
                    have q167 : x4_1 < (l0.length : Int) := of_decide_eq_true (by first | (with_reducible assumption) | assumption)
                    obtain ⟨ad167, e167, hx167_0, hx167_1⟩ := at_T61 HR0.out x4_1 p167 q167
                    cases e167
                    replace hx167_0 := (HB.out.cell (World.block_lt_of_cell? w _ hx167_0)).trans hx167_0
                    replace hx167_1 := (HB.out.cell (World.block_lt_of_cell? w _ hx167_1)).trans hx167_1
                    replace p167 := eq_true p167
                    replace q167 := eq_true q167
                    have p168 : 0 ≤ (x4_1 : Int) := of_decide_eq_true (by first | (with_reducible assumption) | assumption)
                    have q168 : x4_1 < (l0.length : Int) := of_decide_eq_true (by first | (with_reducible assumption) | assumption)
                    obtain ⟨ad168, e168, hx168_0, hx168_1⟩ := at_T61 HR0.out x4_1 p168 q168
                    obtain rfl : ad167 = ad168 := (by injection e168)
                    replace hx168_0 := (HB.out.cell (World.block_lt_of_cell? w _ hx168_0)).trans hx168_0
                    replace hx168_1 := (HB.out.cell (World.block_lt_of_cell? w _ hx168_1)).trans hx168_1
                    replace p168 := eq_true p168
                    replace q168 := eq_true q168
                    have p176 : 0 ≤ (x4_1 : Int) := of_decide_eq_true (by first | (with_reducible assumption) | assumption)
                    have q176 : x4_1 < (l0.length : Int) := of_decide_eq_true (by first | (with_reducible assumption) | assumption)
                    obtain ⟨ad176, e176, hx176_0, hx176_1⟩ := at_T61 HR0.out x4_1 p176 q176
                    obtain rfl : ad167 = ad176 := (by injection e176)
                    replace hx176_0 := (HB.out.cell (World.block_lt_of_cell? w _ hx176_0)).trans hx176_0
                    replace hx176_1 := (HB.out.cell (World.block_lt_of_cell? w _ hx176_1)).trans hx176_1
                    replace p176 := eq_true p176
                    replace q176 := eq_true q176
                    go_wp2_with (first | ((with_reducible refine gate_dst (N := 47) rfl ?_); (try (refine gate_guard (by rfl) ?_; dsimp only)); refine Kd.R_lit k40 _ 40 ?hg (N := 47) ?hd (xs := ([(⟨wrap64 (Int.tmod ((rd_T61 l0 x4_1).f1) 3), 0, 13, 0, 0, 0⟩ : S40), (⟨wrap64 (Int.tmod ((rd_T61 l0 x4_1).f1) 3), 0, 7, (Int.tdiv ((rd_T61 l0 x4_1).f1) 4) % 2, 0, 0⟩ : S40), (⟨wrap64 (Int.tmod ((rd_T61 l0 x4_1).f1) 3), 0, 14, 0, 0, 0⟩ : S40)] : List (S40))) (inner := [.int .i64 (wrap64 (Int.tmod ((rd_T61 l0 x4_1).f1) 3)), .int .i64 0, .int .u8 13, .int .i64 0, .int .i64 0, .int .i64 0, .int .i64 (wrap64 (Int.tmod ((rd_T61 l0 x4_1).f1) 3)), .int .i64 0, .int .u8 7, .int .i64 ((Int.tdiv ((rd_T61 l0 x4_1).f1) 4) % 2), .int .i64 0, .int .i64 0, .int .i64 (wrap64 (Int.tmod ((rd_T61 l0 x4_1).f1) 3)), .int .i64 0, .int .u8 14, .int .i64 0, .int .i64 0, .int .i64 0]) (ok := fun _ => True) (okp := fun _ => True) ?hr ?hp (fun _ hk => hk) trivial (Below.refl _ _) (Nat.le_refl _) (by simp) ?_; (case hd => rfl); (case hg => rfl); (case hr => first | (go_simp; done) | (go_simp; rfl)); (case hp => exact (Reps.c6 (show Kd.M k40 _ _ _ (⟨wrap64 (Int.tmod ((rd_T61 l0 x4_1).f1) 3), 0, 13, 0, 0, 0⟩ : S40) [.int .i64 (wrap64 (Int.tmod ((rd_T61 l0 x4_1).f1) 3)), .int .i64 0, .int .u8 13, .int .i64 0, .int .i64 0, .int .i64 0] from (k40_mkM _ _ _ (⟨wrap64 (Int.tmod ((rd_T61 l0 x4_1).f1) 3), 0, 13, 0, 0, 0⟩ : S40) )) (Reps.c6 (show Kd.M k40 _ _ _ (⟨wrap64 (Int.tmod ((rd_T61 l0 x4_1).f1) 3), 0, 7, (Int.tdiv ((rd_T61 l0 x4_1).f1) 4) % 2, 0, 0⟩ : S40) [.int .i64 (wrap64 (Int.tmod ((rd_T61 l0 x4_1).f1) 3)), .int .i64 0, .int .u8 7, .int .i64 ((Int.tdiv ((rd_T61 l0 x4_1).f1) 4) % 2), .int .i64 0, .int .i64 0] from (k40_mkM _ _ _ (⟨wrap64 (Int.tmod ((rd_T61 l0 x4_1).f1) 3), 0, 7, (Int.tdiv ((rd_T61 l0 x4_1).f1) 4) % 2, 0, 0⟩ : S40) )) (Reps.c6 (show Kd.M k40 _ _ _ (⟨wrap64 (Int.tmod ((rd_T61 l0 x4_1).f1) 3), 0, 14, 0, 0, 0⟩ : S40) [.int .i64 (wrap64 (Int.tmod ((rd_T61 l0 x4_1).f1) 3)), .int .i64 0, .int .u8 14, .int .i64 0, .int .i64 0, .int .i64 0] from (k40_mkM _ _ _ (⟨wrap64 (Int.tmod ((rd_T61 l0 x4_1).f1) 3), 0, 14, 0, 0, 0⟩ : S40) )) (Reps.none _ _))))); intro v178 w14 ho15 hb hg_ hnew_; clear hg_ hnew_; (first | rw [← Ny177.out] at ho15 | (simp only [Int.reduceToNat] at ho15; rw [← Ny177.out] at ho15)); have n0_ := Aside0.mk (Kd.R_elder' (by (with_reducible repeat (first | apply Kd.R_alloc | apply Kd.R_drewN | apply Kd.R_drew)); exact HO_3.out) (Kd.R_base ho15) hb); have n1_ := Aside0.mk (Kd.R_lower (Kd.R_new' ho15 (Kd.R_lt (by (with_reducible repeat (first | apply Kd.R_alloc | apply Kd.R_drewN | apply Kd.R_drew)); exact HO_3.out))) (below_size (by repeat (first | (with_reducible first | exact HB.out | apply below_alloc | apply pw_below_drewN | apply below_drew1) | exact HB.out)))); have n2_ := Aside0.mk (below_step (by repeat (first | (with_reducible first | exact HB.out | apply below_alloc | apply pw_below_drewN | apply below_drew1) | exact HB.out)) hb); clear HO_3; clear HB; have HO_3 := n0_; have HO179 := n1_; have HB := n2_; clear n0_ n1_ n2_; clear hb ho15; obtain ⟨Ao17, co17, eo17⟩ := Kd.R_slice HO179.out; subst eo17) | ((with_reducible refine gate_builtin (b := .append) (xs := #[.tmp 31, .tmp 47]) rfl ?_); (try (refine gate_guard (by rfl) ?_; dsimp only)); at_builtin; refine Kd.R_append_rows k40 (w0 := w) w.heap.size rfl (.tmp 31) (.tmp 47) 30 40 (.agg #[(.int .i64 0), (.int .i64 0), (.int .u8 0), (.int .i64 0), (.int .i64 0), (.int .i64 0)]) 48 rfl Try.underlying30 info40 rfl (by decide) (by omega) u3 x3_1 y177 _ _ _ (fun k_ => some k_ ≠ (.slice Ao17 y177.length co17 : Value).ownBlock) (fun _ => False) rfl rfl ?aO ?aR (fun _ _ h => h) (fun _ h => h.elim) ?aF ?aB ?aS ?aL ?_; (case aR => repeat (first | exact (Kd.R_reads' HO179.out).2.2 | (with_reducible refine Kd.C_alloc ?_ _) | (with_reducible refine Kd.C_drewN ?_ _) | (with_reducible refine Kd.C_drew ?_))); (case aB => exact (by repeat (first | (with_reducible first | exact HB.out | apply below_alloc | apply pw_below_drewN | apply below_drew1) | exact HB.out))); (case aF => exact (fun k_ hk => Kd.fresh' (Kd.R_lt (by (with_reducible repeat (first | apply Kd.R_alloc | apply Kd.R_drewN | apply Kd.R_drew)); exact HO179.out)) k_ hk)); (case aO => exact (by (with_reducible repeat (first | apply Kd.R_alloc | apply Kd.R_drewN | apply Kd.R_drew)); exact Kd.R_mono HO_3.out (fun _ hk => hk.2))); (case aS => exact (below_size (by repeat (first | (with_reducible first | exact HB.out | apply below_alloc | apply pw_below_drewN | apply below_drew1) | exact HB.out)))); (case aL => have := LMc13.out; omega); intro v181 w16 ho hb hg hat; rw [← Ny180.out] at ho; have n0_ := Aside0.mk (Kd.R_after (ok := (fun _ => True)) (by (with_reducible repeat (first | apply Kd.R_alloc | apply Kd.R_drewN | apply Kd.R_drew)); exact HO179.out) hg hat); have n1_ := Aside0.mk (hb); have n2_ := Aside0.mk (ho); clear HO179; clear HB; clear HO_3; have HO179 := n0_; have HB := n1_; have HO182 := n2_; clear n0_ n1_ n2_; clear ho hb hg hat))
                    go_roundg kj1
                    case measure => have := HK1.out; have := HJ1.out; omega
                    case rel => exact ⟨(y180), (wrap64 (x4_1 + 1)), (by first | rfl | (simp; done) | (simp [*]; done)), H', ⟨by have := HK1.out; have := HJ1.out; omega⟩, ⟨by (with_reducible repeat (first | apply Kd.R_alloc | apply Kd.R_drewN | apply Kd.R_drew)); exact Kd.R_mono HO182.out (fun _ hk => trivial)⟩, ⟨by repeat (first | (with_reducible first | exact HB.out | apply below_alloc | apply pw_below_drewN | apply below_drew1) | exact HB.out)⟩⟩
                  · rw [if_neg c13] at H
                    exact absurd H (by simp)
              · rw [if_neg c6] at H
                exact absurd H (by simp)
            · rw [if_neg c5] at H
              exact absurd H (by simp)
          · replace c4 := Bool.eq_false_iff.mpr c4
            subst c4
            have H1 : ((interlocklaw08_known.f).bind fun t183 => (if t183 = true then ((race_Find.f 0 0 1 ([] : List Int) 0 0 ([] : List (List (S25))) x3_1).bind fun t184 => (some ((t184.length : Int) == 0))) else (some false))) = some r := by rw [if_neg (show ¬ (false = true) by decide)] at H; exact H
            clear H
            have H := H1
            clear H1
            replace H := Option.bind_eq_some_iff.mp H
            obtain ⟨t183, A180, H⟩ := H
            replace H : (if t183 = true then ((race_Find.f 0 0 1 ([] : List Int) 0 0 ([] : List (List (S25))) x3_1).bind fun t184 => (some ((t184.length : Int) == 0))) else (some false)) = some r := H
            have A18 := Aside0.mk A180
            clear A180
            by_cases c19 : t183 = true
            · subst c19
              have H1 : ((race_Find.f 0 0 1 ([] : List Int) 0 0 ([] : List (List (S25))) x3_1).bind fun t184 => (some ((t184.length : Int) == 0))) = some r := by rw [if_pos rfl] at H; exact H
              clear H
              have H := H1
              clear H1
              replace H := Option.bind_eq_some_iff.mp H
              obtain ⟨t184, A200, H⟩ := H
              replace H : (some ((t184.length : Int) == 0)) = some r := H
              have A20 := Aside0.mk A200
              clear A200
              obtain rfl := Option.some.inj H
              go_wp2_with (first | ((with_reducible refine gate_callee (f := 12) rfl ?_); refine goesL_ (some 49) rfl rfl Try.func12 (by kernel_rfl) rfl #[] rfl (by (try simp only [List.map_toArray, List.map_cons, List.map_nil]); first | done | rfl | (simp only [List.length_drop, List.length_take]; rfl)) ?_; (with_reducible refine (interlocklaw08_known.calls  true _ A18.out).mono ?_); rintro e w21 ⟨rfl, hb⟩; refine ⟨_, rfl, ?_⟩; have n0_ := Aside0.mk (Kd.R_below (by (with_reducible repeat (first | apply Kd.R_alloc | apply Kd.R_drewN | apply Kd.R_drew)); exact HO_3.out) hb); have n1_ := Aside0.mk (below_step (by repeat (first | (with_reducible first | exact HB.out | apply below_alloc | apply pw_below_drewN | apply below_drew1) | exact HB.out)) hb); clear HO_3; clear HB; have HO_3 := n0_; have HB := n1_; clear n0_ n1_; (try clear hb); (try clear hb2); (try clear hk); (try clear hi); obtain ⟨Ao22, co22, eo22⟩ := Kd.R_slice HO_3.out; subst eo22) | (go_at_call 17; (refine (race_Find.calls 0 0 1 _ _ ([] : List Int) 0 0 _ _ ([] : List (List (S25))) _ _ x3_1 t184 _ ?side1 ?side2 ?side3 ?side4 ?side5 ?side6 A20.out).mono ?_); (case side1 => exact Kd.C_nil _ _); (case side2 => exact Nat.le_refl _); (case side3 => exact Kd.C_nil _ _); (case side4 => exact Nat.le_refl _); (case side5 => repeat (first | exact (Kd.R_reads' HO_3.out).2.2 | (with_reducible refine Kd.C_alloc ?_ _) | (with_reducible refine Kd.C_drewN ?_ _) | (with_reducible refine Kd.C_drew ?_))); (case side6 => exact (Kd.R_reads' HO_3.out).2.1); rintro e w23 ⟨v185, rfl, ho0, hb⟩; clear A20; have n0_ := Aside0.mk (Kd.R_below (by (with_reducible repeat (first | apply Kd.R_alloc | apply Kd.R_drewN | apply Kd.R_drew)); exact HO_3.out) hb); have n1_ := Aside0.mk (Kd.R_lower ho0 (below_size (by repeat (first | (with_reducible first | exact HB.out | apply below_alloc | apply pw_below_drewN | apply below_drew1) | exact HB.out)))); have n2_ := Aside0.mk (below_step (by repeat (first | (with_reducible first | exact HB.out | apply below_alloc | apply pw_below_drewN | apply below_drew1) | exact HB.out)) hb); clear HO_3; clear HB; have HO_3 := n0_; have HO186 := n1_; have HB := n2_; clear n0_ n1_ n2_; (try clear hb); (try clear hb2); (try clear hk); (try clear hi); (try clear ho0); obtain ⟨Ao24, co24, eo24⟩ := Kd.R_slice HO186.out; subst eo24))
              go_ret
              exact ⟨by first | rfl | (simp [errW_none, errW_some] <;> rfl) | (simp [*, errW_none, errW_some] <;> rfl), by repeat (first | (with_reducible first | exact HB.out | apply below_alloc | apply pw_below_drewN | apply below_drew1) | exact HB.out)⟩
            · replace c19 := Bool.eq_false_iff.mpr c19
              subst c19
              have H1 : (some false) = some r := by rw [if_neg (show ¬ (false = true) by decide)] at H; exact H
              clear H
              have H := H1
              clear H1
              obtain rfl := Option.some.inj H
              go_wp2_with (first | ((with_reducible refine gate_callee (f := 12) rfl ?_); refine goesL_ (some 49) rfl rfl Try.func12 (by kernel_rfl) rfl #[] rfl (by (try simp only [List.map_toArray, List.map_cons, List.map_nil]); first | done | rfl | (simp only [List.length_drop, List.length_take]; rfl)) ?_; (with_reducible refine (interlocklaw08_known.calls  false _ A18.out).mono ?_); rintro e w25 ⟨rfl, hb⟩; refine ⟨_, rfl, ?_⟩; have n0_ := Aside0.mk (Kd.R_below (by (with_reducible repeat (first | apply Kd.R_alloc | apply Kd.R_drewN | apply Kd.R_drew)); exact HO_3.out) hb); have n1_ := Aside0.mk (below_step (by repeat (first | (with_reducible first | exact HB.out | apply below_alloc | apply pw_below_drewN | apply below_drew1) | exact HB.out)) hb); clear HO_3; clear HB; have HO_3 := n0_; have HB := n1_; clear n0_ n1_; (try clear hb); (try clear hb2); (try clear hk); (try clear hi)))
              go_ret
              exact ⟨by first | rfl | (simp [errW_none, errW_some] <;> rfl) | (simp [*, errW_none, errW_some] <;> rfl), by repeat (first | (with_reducible first | exact HB.out | apply below_alloc | apply pw_below_drewN | apply below_drew1) | exact HB.out)⟩

/-! ### interlockref08_Same: function 16 -/
def interlockref08_Same.l0 : Nat → List (S55) → List (S55) → Int → Option (Bool)
  | 0, _, _, _ => none
  | k + 1, x0, x1, x5 => if x5 < (x0.length : Int) then (if 0 ≤ x5 then (if x5 < (x1.length : Int) then (if (!(((rd_T55 x0 x5).f0) == ((rd_T55 x1 x5).f0)) || (!(((rd_T55 x0 x5).f1) == ((rd_T55 x1 x5).f1)))) = true then (some false) else (interlockref08_Same.l0 k x0 x1 (wrap64 (x5 + 1)))) else (none)) else (none)) else (some true)
def interlockref08_Same.f (k : Nat) (l0 : List (S55)) (l1 : List (S55)) : Option (Bool) := if (l0.length : Int) = (l1.length : Int) then (interlockref08_Same.l0 k l0 l1 0) else (some false)
theorem interlockref08_Same.mono_l : ∀ k, (∀ y0 y1 y2, LeO (interlockref08_Same.l0 k y0 y1 y2) (interlockref08_Same.l0 (k + 1) y0 y1 y2))
  | 0 => fun _ _ _ r h => by simp [interlockref08_Same.l0] at h
  | k + 1 => by
    have ih0 := interlockref08_Same.mono_l k
    · intro y0 y1 y2
      unfold interlockref08_Same.l0
      repeat' first
      | (with_reducible exact ih0 _ _ _)
      | (with_reducible exact LeO.refl _)
      | (with_reducible exact LeO.none _)
      | (with_reducible refine LeO.ite ?_ ?_)
      | (with_reducible refine LeO.bind ?_ (fun _ => ?_))
      | exact ih0 _ _ _
      | exact LeO.none _
      | refine LeO.ite ?_ ?_
      | refine LeO.bind ?_ (fun _ => ?_)
theorem interlockref08_Same.mono : ∀ a0 a1 k, LeO (interlockref08_Same.f k a0 a1) (interlockref08_Same.f (k + 1) a0 a1) := by
  intro a0 a1 k
  have ih0 := interlockref08_Same.mono_l k
  unfold interlockref08_Same.f
  repeat' first
      | (with_reducible exact ih0 _ _ _)
      | (with_reducible exact LeO.refl _)
      | (with_reducible exact LeO.none _)
      | (with_reducible refine LeO.ite ?_ ?_)
      | (with_reducible refine LeO.bind ?_ (fun _ => ?_))
      | exact ih0 _ _ _
      | exact LeO.none _
      | refine LeO.ite ?_ ?_
      | refine LeO.bind ?_ (fun _ => ?_)
set_option maxHeartbeats 8000000 in
set_option maxRecDepth 100000 in
theorem interlockref08_Same.calls (k : Nat) (A0 : Option Addr) (c0 : Nat) (l0 : List (S55)) (A1 : Option Addr) (c1 : Nat) (l1 : List (S55)) (r : Bool) (w : World) (hr0 : Kd.C k55 w A0 l0.length l0) (hc0 : l0.length ≤ c0) (hr1 : Kd.C k55 w A1 l1.length l1) (hc1 : l1.length ≤ c1) (h : interlockref08_Same.f k l0 l1 = some r) :
    Calls Try.prog 16 #[.slice A0 l0.length c0, .slice A1 l1.length c1] w fun e w' => e = .returned (.bool r) ∧ Drawn0 w w' := by
  have hu55 := Try.underlying55
  have HR0 := Aside0.mk hr0
  have HC0 := Aside0.mk hc0
  clear hr0 hc0
  have HR1 := Aside0.mk hr1
  have HC1 := Aside0.mk hc1
  clear hr1 hc1
  have H : (if (l0.length : Int) = (l1.length : Int) then (interlockref08_Same.l0 k l0 l1 0) else (some false)) = some r := h
  clear h
  by_cases c3 : (l0.length : Int) = (l1.length : Int)
  · rw [if_pos c3] at H
    have c3b0 : ((l0.length : Int) == (l1.length : Int)) = true := beq_iff_eq.mpr c3
    have c3b1 : ((l0.length : Int) != (l1.length : Int)) = false := bne_eq_false_iff_eq.mpr c3
    have c3b2 : (l0.length == l1.length) = true := by first | simpa using c3 | (simp at c3 ⊢; omega)
    clear c3
    have H' := Aside0.mk H
    clear H
    go_enter Try.func16, Try.ntmps16
    go_wp2
    repeat (go_quiet (fail); try go_wp2)
    go_loopg [5] k (fun kq v5 w' => ∃ (x5_1 : Int), v5 = .int .i64 x5_1 ∧ Aside0 (interlockref08_Same.l0 kq l0 l1 x5_1 = some r) ∧ Aside0 (kq ≤ k) ∧ Drawn0 w w')
    case atStart => exact ⟨(0), (by first | rfl | (simp; done) | (simp [*]; done)), H', ⟨Nat.le_refl _⟩, by repeat (first | exact Drawn0.refl _ | apply Drawn0.step)⟩
    case round =>
      clear H'
      try clear c1
      try clear p2
      try clear c3
      try clear c3b0
      try clear c3b1
      try clear c3b2
      obtain ⟨x5_1, rfl, HA, HK1, ⟨m1, rfl⟩⟩ := hrel
      cases gk with
      | zero => exact absurd HA.out (by simp [interlockref08_Same.l0])
      | succ k1 =>
        have H := HA.out
        clear HA
        simp only [interlockref08_Same.l0] at H
        by_cases c4 : x5_1 < (l0.length : Int)
        · rw [if_pos c4] at H
          have c4b0 : decide (x5_1 < (l0.length : Int)) = true := decide_eq_true c4
          clear c4
          by_cases c5 : 0 ≤ x5_1
          · rw [if_pos c5] at H
            have c5b0 : decide (0 ≤ x5_1) = true := decide_eq_true c5
            clear c5
            by_cases c6 : x5_1 < (l1.length : Int)
            · rw [if_pos c6] at H
              have c6b0 : decide (x5_1 < (l1.length : Int)) = true := decide_eq_true c6
              clear c6
              by_cases c7 : (!(((rd_T55 l0 x5_1).f0) == ((rd_T55 l1 x5_1).f0)) || (!(((rd_T55 l0 x5_1).f1) == ((rd_T55 l1 x5_1).f1)))) = true
              · rw [if_pos c7] at H
                have c7b0 : (!(((rd_T55 l0 x5_1).f0) == ((rd_T55 l1 x5_1).f0)) || (!(((rd_T55 l0 x5_1).f1) == ((rd_T55 l1 x5_1).f1)))) = true := c7
                clear c7
                obtain rfl := Option.some.inj H
                have p187 : 0 ≤ (x5_1 : Int) := of_decide_eq_true (by first | (with_reducible assumption) | assumption)
                have q187 : x5_1 < (l0.length : Int) := of_decide_eq_true (by first | (with_reducible assumption) | assumption)
                obtain ⟨ad187, e187, hx187_0, hx187_1⟩ := at_T55 HR0.out x5_1 p187 q187
                cases e187
                replace p187 := eq_true p187
                replace q187 := eq_true q187
                have p188 : 0 ≤ (x5_1 : Int) := of_decide_eq_true (by first | (with_reducible assumption) | assumption)
                have q188 : x5_1 < (l1.length : Int) := of_decide_eq_true (by first | (with_reducible assumption) | assumption)
                obtain ⟨ad188, e188, hx188_0, hx188_1⟩ := at_T55 HR1.out x5_1 p188 q188
                cases e188
                replace p188 := eq_true p188
                replace q188 := eq_true q188
                go_wp2
                repeat (go_quiet (fail); try go_wp2)
                go_ret
                exact ⟨by first | rfl | (simp; done) | (simp [*]; done), by repeat (first | exact Drawn0.refl _ | apply Drawn0.step)⟩
              · rw [if_neg c7] at H
                have c7b0 : (!(((rd_T55 l0 x5_1).f0) == ((rd_T55 l1 x5_1).f0)) || (!(((rd_T55 l0 x5_1).f1) == ((rd_T55 l1 x5_1).f1)))) = false := by simpa using c7
                clear c7
                have H' := Aside0.mk H
                clear H
                have p187 : 0 ≤ (x5_1 : Int) := of_decide_eq_true (by first | (with_reducible assumption) | assumption)
                have q187 : x5_1 < (l0.length : Int) := of_decide_eq_true (by first | (with_reducible assumption) | assumption)
                obtain ⟨ad187, e187, hx187_0, hx187_1⟩ := at_T55 HR0.out x5_1 p187 q187
                cases e187
                replace p187 := eq_true p187
                replace q187 := eq_true q187
                have p188 : 0 ≤ (x5_1 : Int) := of_decide_eq_true (by first | (with_reducible assumption) | assumption)
                have q188 : x5_1 < (l1.length : Int) := of_decide_eq_true (by first | (with_reducible assumption) | assumption)
                obtain ⟨ad188, e188, hx188_0, hx188_1⟩ := at_T55 HR1.out x5_1 p188 q188
                cases e188
                replace p188 := eq_true p188
                replace q188 := eq_true q188
                go_wp2
                repeat (go_quiet (fail); try go_wp2)
                go_roundg k1
                case measure => have := HK1.out; omega
                case rel => exact ⟨(wrap64 (x5_1 + 1)), (by first | rfl | (simp; done) | (simp [*]; done)), H', ⟨by have := HK1.out; omega⟩, by repeat (first | exact Drawn0.refl _ | apply Drawn0.step)⟩
            · rw [if_neg c6] at H
              exact absurd H (by simp)
          · rw [if_neg c5] at H
            exact absurd H (by simp)
        · rw [if_neg c4] at H
          have c4b0 : decide (x5_1 < (l0.length : Int)) = false := decide_eq_false c4
          clear c4
          obtain rfl := Option.some.inj H
          go_wp2
          repeat (go_quiet (fail); try go_wp2)
          go_ret
          exact ⟨by first | rfl | (simp; done) | (simp [*]; done), by repeat (first | exact Drawn0.refl _ | apply Drawn0.step)⟩
  · rw [if_neg c3] at H
    have c3b0 : ((l0.length : Int) == (l1.length : Int)) = false := beq_eq_false_iff_ne.mpr c3
    have c3b1 : ((l0.length : Int) != (l1.length : Int)) = true := bne_iff_ne.mpr c3
    have c3b2 : (l0.length == l1.length) = false := by first | simpa using c3 | (simp at c3 ⊢; omega)
    obtain rfl := Option.some.inj H
    go_enter Try.func16, Try.ntmps16
    go_wp2
    repeat (go_quiet (fail); try go_wp2)
    go_ret
    exact ⟨by first | rfl | (simp; done) | (simp [*]; done), by repeat (first | exact Drawn0.refl _ | apply Drawn0.step)⟩

end Go.Proofs.Ytblnimopffhocaa.P
