/- say, walked. -/
import Derived.Test.YtblnimopffhocaaXBits
import Derived.Test.YtblnimopffhocaaRHand3
namespace Go.Proofs.Ytblnimopffhocaa.P
open Go.RowKit Go.Proofs.YtblnimopffhocaaW.PrintWords Go.Proofs.YtblnimopffhocaaW.PrintLast Go.Proofs.YtblnimopffhocaaW.PrintMore Go.Proofs.YtblnimopffhocaaX Go.ChangeMaps
set_option linter.unusedVariables false
set_option linter.unusedSimpArgs false
theorem clone_any {B : Nat} (w : World) (A0 : Option Addr) (c0 : Nat) (l0 : List Int) (h0 : RI w B (.slice A0 l0.length c0) l0) (n0 : l0.length ≤ 6) :
 Calls Try.prog 55 #[.slice A0 l0.length c0] w fun e w' => ∃ v : Value, e = .returned v ∧ RI w' w.heap.size v l0 ∧ Below w.heap.size w w' := by
 obtain ⟨_, q0, r0⟩ := Kd.R_reads' h0
 exact C.slices_Clone_int_int.calls A0 c0 l0 l0 w r0 q0 (by unfold C.slices_Clone_int_int.f; rw [if_pos (by omega)])
section
variable {B g gk gc gl : Nat} {w w1 : World} {p v : Nat → Value} {σ : Det} {vo : Value} {n : Nat}
set_option maxRecDepth 100000 in
set_option maxHeartbeats 4000000 in
theorem say_any (h : DetAt B w g gk gc gl p σ v vo) (hO : σ.Ok n) (e : S40) (t : Nat) (het : e.f0 = (t : Int)) (ht : t < 6) (k : Key) (r : Det) (hr : σ.say e k = r) :
 Calls Try.prog 42 #[.pointer (some ⟨g, 0, none⟩), .agg #[.int .i64 (t : Int), .int .i64 e.f1, .int .u8 e.f2, .int .i64 e.f3, .int .i64 e.f4, .int .i64 e.f5], .agg #[.int .u8 k.1, .int .i64 k.2.1, .int .i64 k.2.2]] w fun en w' => ∃ v', en = .returned (.tuple #[]) ∧ Fr g gk gc gl w w' ∧ DetAt B w' g gk gc gl p r v' vo := by
 have HD := Aside0.mk h
 have HO := Aside0.mk hO
 have HT := Aside0.mk ht
 have HR := Aside0.mk hr
 have HET := Aside0.mk het
 have p1 : (0 : Int) ≤ (t : Int) := by omega
 have p2 : (t : Int) < 6 := by omega
 clear h hO ht hr het
 go_enter Try.func42, Try.ntmps42
 go_wp2_with (first | ((with_reducible refine gate_dst (N := 4) rfl ?_); refine box_event ?hg (N := 4) ?hd (cs := #[.int .i64 (t : Int), .int .i64 e.f1, .int .u8 e.f2, .int .i64 e.f3, .int .i64 e.f4, .int .i64 e.f5]) (t := 40) ?hr ?_; (case hd => rfl); (case hg => rfl); (case hr => first | (go_simp; done) | (go_simp; rfl)); intro g4 hg4_ w1 hbg4_ hlg4_; have HNg4 := Aside0.mk hg4_; have HBg4 := Aside0.mk hbg4_; have HLg4 := Aside0.mk hlg4_; clear hg4_ hbg4_ hlg4_) | ((with_reducible refine gate_dst (N := 5) rfl ?_); refine box_event ?hg (N := 5) ?hd (cs := #[.int .u8 k.1, .int .i64 k.2.1, .int .i64 k.2.2]) (t := 89) ?hr ?_; (case hd => rfl); (case hg => rfl); (case hr => first | (go_simp; done) | (go_simp; rfl)); intro g5 hg5_ w2 hbg5_ hlg5_; have HNg5 := Aside0.mk hg5_; have HBg5 := Aside0.mk hbg5_; have HLg5 := Aside0.mk hlg5_; clear hg5_ hbg5_ hlg5_))
 have H12 := Aside0.mk (below_then HLg4.out HLg4.out.size HLg5.out)
 have HE4 := Aside0.mk ((HLg5.out.block g4 (blk_lt HBg4.out)).trans HBg4.out)
 have s0 : w2.drew.cell? ⟨g4, 0, none⟩ = some (.int .i64 (t : Int)) := (blk_cell (w := w2.drew) HE4.out 0).trans rfl
 have s1 : w2.drew.cell? ⟨g4, 3, none⟩ = some (.int .i64 e.f3) := (blk_cell (w := w2.drew) HE4.out 3).trans rfl
 refine start_ (n := 6) (S := fun w' => w'.cell? ⟨g4, 0, none⟩ = some (.int .i64 (t : Int)) ∧ w'.cell? ⟨g4, 3, none⟩ = some (.int .i64 e.f3)) (ds := []) (bl 6 0) (by kernel_rfl) rfl rfl ⟨s0, s1⟩ (fun hHeld => ?_)
 refine pure_ (i := 0) (N := some 8) (v := ?_) (a' := ?_) (bl 6 1) rfl rfl (by kernel_rfl) (fun _ _ _ h => h) (Or.inl ⟨by rfl, ?_⟩) ?_ ?_
 rotate_left
 · intro w'
   go_simp
   with_reducible rfl
 rotate_left
 · simp only [Act.put, List.setIfInBounds_toArray, List.set_cons_zero, List.set_cons_succ, i64_w, i32_w]
   rfl
 refine pure_ (i := 2) (N := some 10) (v := ?_) (a' := ?_) (bl 6 5) rfl rfl (by kernel_rfl) (fun _ _ _ h => h) (Or.inl ⟨by rfl, ?_⟩) ?_ ?_
 rotate_left
 · intro w'
   go_simp
   with_reducible rfl
 rotate_left
 · simp only [Act.put, List.setIfInBounds_toArray, List.set_cons_zero, List.set_cons_succ, i64_w, i32_w]
   rfl
 refine take_ (i := 1) (N := some 9) (v := ?_) (a' := ?_) (bl 6 7) rfl rfl (by kernel_rfl) (fun _ _ _ h => h) (Or.inl ⟨by rfl, ?_⟩) hHeld ?_ ?_
 rotate_left
 · rintro w' ⟨s0, s1⟩
   go_simp
   with_reducible rfl
 rotate_left
 · simp only [Act.put, List.setIfInBounds_toArray, List.set_cons_zero, List.set_cons_succ, i64_w, i32_w]
   rfl
 refine pure_ (i := 4) (N := some 6) (v := ?_) (a' := ?_) (bl 6 23) rfl rfl (by kernel_rfl) (fun _ _ _ h => h) (Or.inl ⟨by rfl, ?_⟩) ?_ ?_
 rotate_left
 · intro w'
   go_simp
   with_reducible rfl
 rotate_left
 · simp only [Act.put, List.setIfInBounds_toArray, List.set_cons_zero, List.set_cons_succ, i64_w, i32_w]
   rfl
 refine take_ (i := 3) (N := some 11) (v := ?_) (a' := ?_) (bl 6 31) rfl rfl (by kernel_rfl) (fun _ _ _ h => h) (Or.inl ⟨by rfl, ?_⟩) hHeld ?_ ?_
 rotate_left
 · rintro w' ⟨s0, s1⟩
   go_simp
   with_reducible rfl
 rotate_left
 · simp only [Act.put, List.setIfInBounds_toArray, List.set_cons_zero, List.set_cons_succ, i64_w, i32_w]
   rfl
 refine pure_ (i := 5) (N := some 7) (v := ?_) (a' := ?_) (bl 6 63) rfl rfl (by kernel_rfl) (fun _ _ _ h => h) (Or.inl ⟨by rfl, ?_⟩) ?_ ?_
 rotate_left
 · intro w'
   go_simp
   with_reducible rfl
 rotate_left
 · simp only [Act.put, List.setIfInBounds_toArray, List.set_cons_zero, List.set_cons_succ, i64_w, i32_w]
   rfl
 refine done_ (by kernel_rfl) ?_
 have HFa : Aside0 (Fr g gk gc gl w w2.drew) := ⟨Fr.of_below (below_then H12.out H12.out.size (below_drew (Below.refl _ _)))⟩
 have HDa := Aside0.mk ((HD.out.below H12.out).below (below_drew (Below.refl _ _)))
 have u2 : w2.drew.cell? ⟨g4, 2, none⟩ = some (.int .u8 e.f2) := (blk_cell (w := w2.drew) HE4.out 2).trans rfl
 have u4 : w2.drew.cell? ⟨g4, 4, none⟩ = some (.int .i64 e.f4) := (blk_cell (w := w2.drew) HE4.out 4).trans rfl
 have u5 : w2.drew.cell? ⟨g4, 5, none⟩ = some (.int .i64 e.f5) := (blk_cell (w := w2.drew) HE4.out 5).trans rfl
 have k0 : w2.drew.cell? ⟨g5, 0, none⟩ = some (.int .u8 k.1) := (blk_cell (w := w2.drew) HBg5.out 0).trans rfl
 have k1 : w2.drew.cell? ⟨g5, 1, none⟩ = some (.int .i64 k.2.1) := (blk_cell (w := w2.drew) HBg5.out 1).trans rfl
 have k2 : w2.drew.cell? ⟨g5, 2, none⟩ = some (.int .i64 k.2.2) := (blk_cell (w := w2.drew) HBg5.out 2).trans rfl
 clear s0 s1 hHeld HD HNg4 HBg4 HLg4 HNg5 HBg5 HLg5 H12 HE4
 generalize w2.drew = wa at HFa HDa u2 u4 u5 k0 k1 k2 ⊢
 cases h12 : e.f2 == 12 with
 | true =>
  cases o1 : decide (0 ≤ e.f3) with
  | false =>
   have o3 : ¬ (0 ≤ e.f3 ∧ e.f3 < 6) := fun hh => of_decide_eq_false o1 hh.1
   have hr2 := HR.out
   simp only [Det.say, h12, if_neg o3, HET.out, Int.toNat_natCast, Bool.or_true, Bool.or_false, Bool.true_or, Bool.false_or, if_true, if_false, reduceIte, Bool.false_eq_true] at hr2
   have HR2 := Aside0.mk hr2
   clear hr2
   go_wp2
   go_end0
   rw [← HR2.out]
   first | exact ⟨_, rfl, HFa.out, HDa.out⟩ | exact ⟨rfl, HFa.out, _, HDa.out⟩
  | true =>
   cases o2 : decide (e.f3 < 6) with
   | false =>
    have o3 : ¬ (0 ≤ e.f3 ∧ e.f3 < 6) := fun hh => of_decide_eq_false o2 hh.2
    have hr2 := HR.out
    simp only [Det.say, h12, if_neg o3, HET.out, Int.toNat_natCast, Bool.or_true, Bool.or_false, Bool.true_or, Bool.false_or, if_true, if_false, reduceIte, Bool.false_eq_true] at hr2
    have HR2 := Aside0.mk hr2
    clear hr2
    go_wp2
    go_end0
    rw [← HR2.out]
    first | exact ⟨_, rfl, HFa.out, HDa.out⟩ | exact ⟨rfl, HFa.out, _, HDa.out⟩
   | true =>
    have p3 : (0 : Int) ≤ e.f3 := of_decide_eq_true o1
    have p4 : e.f3 < 6 := of_decide_eq_true o2
    have HQ : Aside0 (e.f3.toNat < 6) := ⟨by omega⟩
    have o3 : 0 ≤ e.f3 ∧ e.f3 < 6 := ⟨p3, p4⟩
    have hr2 := HR.out
    simp only [Det.say, h12, if_pos o3, HET.out, Int.toNat_natCast, Bool.or_true, Bool.or_false, Bool.true_or, Bool.false_or, if_true, if_false, reduceIte, Bool.false_eq_true] at hr2
    have HR2 := Aside0.mk hr2
    clear hr2
    clear HR o3 k0 k1 k2 u4 u5
    obtain ⟨At, ct, et⟩ := Kd.R_slice (HDa.out.hth t HT.out)
    have HV := HDa.out.hth t HT.out
    rw [et] at HV
    have HVT := Aside0.mk HV
    clear HV
    obtain ⟨Aq, cq, eq_⟩ := Kd.R_slice (HDa.out.hth e.f3.toNat HQ.out)
    have HV := HDa.out.hth e.f3.toNat HQ.out
    rw [eq_] at HV
    have HVQ := Aside0.mk HV
    clear HV
    have s0 : wa.drew.cell? ⟨g, 7 + t, none⟩ = some (.slice At (σ.th t).length ct) := by rw [← et]; exact (HDa.out.below (below_drew (Below.refl _ _))).th_cell t HT.out
    have s1 : wa.drew.cell? ⟨g, 7 + e.f3.toNat, none⟩ = some (.slice Aq (σ.th e.f3.toNat).length cq) := by rw [← eq_]; exact (HDa.out.below (below_drew (Below.refl _ _))).th_cell e.f3.toNat HQ.out
    have HET2 := Aside0.mk et
    have HEQ2 := Aside0.mk eq_
    clear et eq_
    go_wp2
    refine start_ (n := 19) (S := fun w' => w'.cell? ⟨g, 7 + t, none⟩ = some (.slice At (σ.th t).length ct) ∧ w'.cell? ⟨g, 7 + e.f3.toNat, none⟩ = some (.slice Aq (σ.th e.f3.toNat).length cq)) (ds := [18]) (bl 19 0) (by kernel_rfl) rfl rfl ⟨s0, s1⟩ (fun hHeld => ?_)
    refine pure_ (i := 0) (N := some 22) (v := ?_) (a' := ?_) (bl 19 1) rfl rfl (by kernel_rfl) (fun _ _ _ h => h) (Or.inl ⟨by rfl, ?_⟩) ?_ ?_
    rotate_left
    · intro w'
      go_simp
      with_reducible rfl
    rotate_left
    · simp only [Act.put, List.setIfInBounds_toArray, List.set_cons_zero, List.set_cons_succ, i64_w, i32_w]
      rfl
    refine pure_ (i := 1) (N := some 23) (v := ?_) (a' := ?_) (bl 19 3) rfl rfl (by kernel_rfl) (fun _ _ _ h => h) (Or.inl ⟨by rfl, ?_⟩) ?_ ?_
    rotate_left
    · intro w'
      go_simp
      with_reducible rfl
    rotate_left
    · simp only [Act.put, List.setIfInBounds_toArray, List.set_cons_zero, List.set_cons_succ, i64_w, i32_w]
      rfl
    refine pure_ (i := 2) (N := some 24) (v := ?_) (a' := ?_) (bl 19 7) rfl rfl (by kernel_rfl) (fun _ _ _ h => h) (Or.inl ⟨by rfl, ?_⟩) ?_ ?_
    rotate_left
    · intro w'
      go_simp
      with_reducible rfl
    rotate_left
    · simp only [Act.put, List.setIfInBounds_toArray, List.set_cons_zero, List.set_cons_succ, i64_w, i32_w]
      rfl
    refine pure_ (i := 3) (N := some 25) (v := ?_) (a' := ?_) (bl 19 15) rfl rfl (by kernel_rfl) (fun _ _ _ h => h) (Or.inl ⟨by rfl, ?_⟩) ?_ ?_
    rotate_left
    · intro w'
      go_simp
      with_reducible rfl
    rotate_left
    · simp only [Act.put, List.setIfInBounds_toArray, List.set_cons_zero, List.set_cons_succ, i64_w, i32_w]
      rfl
    refine pure_ (i := 4) (N := some 26) (v := ?_) (a' := ?_) (bl 19 31) rfl rfl (by kernel_rfl) (fun _ _ _ h => h) (Or.inl ⟨by rfl, ?_⟩) ?_ ?_
    rotate_left
    · intro w'
      go_simp
      with_reducible rfl
    rotate_left
    · simp only [Act.put, List.setIfInBounds_toArray, List.set_cons_zero, List.set_cons_succ, i64_w, i32_w]
      rfl
    refine pure_ (i := 5) (N := some 27) (v := ?_) (a' := ?_) (bl 19 63) rfl rfl (by kernel_rfl) (fun _ _ _ h => h) (Or.inl ⟨by rfl, ?_⟩) ?_ ?_
    rotate_left
    · intro w'
      go_simp
      with_reducible rfl
    rotate_left
    · simp only [Act.put, List.setIfInBounds_toArray, List.set_cons_zero, List.set_cons_succ, i64_w, i32_w]
      rfl
    refine pure_ (i := 6) (N := some 28) (v := ?_) (a' := ?_) (bl 19 127) rfl rfl (by kernel_rfl) (fun _ _ _ h => h) (Or.inl ⟨by rfl, ?_⟩) ?_ ?_
    rotate_left
    · intro w'
      go_simp
      with_reducible rfl
    rotate_left
    · simp only [Act.put, List.setIfInBounds_toArray, List.set_cons_zero, List.set_cons_succ, i64_w, i32_w]
      rfl
    refine pure_ (i := 8) (N := some 30) (v := ?_) (a' := ?_) (bl 19 383) rfl rfl (by kernel_rfl) (fun _ _ _ h => h) (Or.inl ⟨by rfl, ?_⟩) ?_ ?_
    rotate_left
    · intro w'
      go_simp
      with_reducible rfl
    rotate_left
    · simp only [Act.put, List.setIfInBounds_toArray, List.set_cons_zero, List.set_cons_succ, i64_w, i32_w]
      rfl
    refine pure_ (i := 9) (N := some 31) (v := ?_) (a' := ?_) (bl 19 895) rfl rfl (by kernel_rfl) (fun _ _ _ h => h) (Or.inl ⟨by rfl, ?_⟩) ?_ ?_
    rotate_left
    · intro w'
      go_simp
      with_reducible rfl
    rotate_left
    · simp only [Act.put, List.setIfInBounds_toArray, List.set_cons_zero, List.set_cons_succ, i64_w, i32_w]
      rfl
    refine pure_ (i := 10) (N := some 32) (v := ?_) (a' := ?_) (bl 19 1919) rfl rfl (by kernel_rfl) (fun _ _ _ h => h) (Or.inl ⟨by rfl, ?_⟩) ?_ ?_
    rotate_left
    · intro w'
      go_simp
      with_reducible rfl
    rotate_left
    · simp only [Act.put, List.setIfInBounds_toArray, List.set_cons_zero, List.set_cons_succ, i64_w, i32_w]
      rfl
    refine pure_ (i := 11) (N := some 33) (v := ?_) (a' := ?_) (bl 19 3967) rfl rfl (by kernel_rfl) (fun _ _ _ h => h) (Or.inl ⟨by rfl, ?_⟩) ?_ ?_
    rotate_left
    · intro w'
      go_simp
      with_reducible rfl
    rotate_left
    · simp only [Act.put, List.setIfInBounds_toArray, List.set_cons_zero, List.set_cons_succ, i64_w, i32_w]
      rfl
    refine pure_ (i := 12) (N := some 34) (v := ?_) (a' := ?_) (bl 19 8063) rfl rfl (by kernel_rfl) (fun _ _ _ h => h) (Or.inl ⟨by rfl, ?_⟩) ?_ ?_
    rotate_left
    · intro w'
      go_simp
      with_reducible rfl
    rotate_left
    · simp only [Act.put, List.setIfInBounds_toArray, List.set_cons_zero, List.set_cons_succ, i64_w, i32_w]
      rfl
    refine pure_ (i := 15) (N := some 37) (v := ?_) (a' := ?_) (bl 19 40831) rfl rfl (by kernel_rfl) (fun _ _ _ h => h) (Or.inl ⟨by rfl, ?_⟩) ?_ ?_
    rotate_left
    · intro w'
      go_simp
      with_reducible rfl
    rotate_left
    · simp only [Act.put, List.setIfInBounds_toArray, List.set_cons_zero, List.set_cons_succ, i64_w, i32_w]
      rfl
    refine pure_ (i := 16) (N := some 38) (v := ?_) (a' := ?_) (bl 19 106367) rfl rfl (by kernel_rfl) (fun _ _ _ h => h) (Or.inl ⟨by rfl, ?_⟩) ?_ ?_
    rotate_left
    · intro w'
      go_simp
      with_reducible rfl
    rotate_left
    · simp only [Act.put, List.setIfInBounds_toArray, List.set_cons_zero, List.set_cons_succ, i64_w, i32_w]
      rfl
    refine take_ (i := 7) (N := some 29) (v := ?_) (a' := ?_) (bl 19 106495) rfl rfl (by kernel_rfl) (fun _ _ _ h => h) (Or.inl ⟨by rfl, ?_⟩) hHeld ?_ ?_
    rotate_left
    · rintro w' ⟨s0, s1⟩
      go_simp
      with_reducible rfl
    rotate_left
    · simp only [Act.put, List.setIfInBounds_toArray, List.set_cons_zero, List.set_cons_succ, i64_w, i32_w]
      rfl
    refine take_ (i := 13) (N := some 35) (v := ?_) (a' := ?_) (bl 19 114687) rfl rfl (by kernel_rfl) (fun _ _ _ h => h) (Or.inl ⟨by rfl, ?_⟩) hHeld ?_ ?_
    rotate_left
    · rintro w' ⟨s0, s1⟩
      go_simp
      with_reducible rfl
    rotate_left
    · simp only [Act.put, List.setIfInBounds_toArray, List.set_cons_zero, List.set_cons_succ, i64_w, i32_w]
      rfl
    refine one_ (i := 14) (N := some 36) (bl 19 131071) rfl rfl (by kernel_rfl) (by decide) (fun K hK => ?_)
    refine goes_ Try.func58 (by kernel_rfl) rfl #[.slice Aq (σ.th e.f3.toNat).length cq, .slice At (σ.th t).length ct] (by rfl) rfl rfl (by simp only [List.map_toArray, List.map_cons, List.map_nil]; rfl) ?_
    with_reducible refine (join_any _ Aq At cq ct (σ.th e.f3.toNat) (σ.th t) (Kd.R_below HVQ.out (below_drew (Below.refl _ _))) (Kd.R_below HVT.out (below_drew (Below.refl _ _))) (HO.out.th _) (HO.out.th t)).mono ?_
    rintro e3 w3 ⟨v0, rfl, hr3, hb3⟩
    obtain ⟨A3, c3, e3v⟩ := Kd.R_slice hr3
    subst e3v
    refine ⟨_, rfl, ?_⟩
    have HB3 := Aside0.mk (below_then (below_drew (Below.refl wa.heap.size wa)) (below_drew (Below.refl wa.heap.size wa)).size hb3)
    have HE3 := Aside0.mk (HDa.out.below HB3.out)
    have HR3 := Aside0.mk (Kd.R_lower hr3 (show B ≤ _ from by have := HDa.out.ge; have := HDa.out.lt; have : wa.drew.heap.size = wa.heap.size := rfl; omega))
    have c0 := HE3.out.th_cell e.f3.toNat HQ.out
    have f0 := HE3.out.frozen (7 + e.f3.toNat)
    clear hr3
    refine hK.out _ _ ⟨(pw_cell_below hb3 hHeld.1), (pw_cell_below hb3 hHeld.2)⟩ (fun hHeld => ?_)
    clear hK K
    refine norm_ (a' := ?_) ?_ ?_
    rotate_left
    · show Act.put _ (some 36) _ = _
      simp only [Act.put, List.setIfInBounds_toArray, List.set_cons_zero, List.set_cons_succ, i64_w, i32_w]
      rfl
    refine pure_ (i := 17) (N := some 39) (v := ?_) (a' := ?_) (bl 19 262143) rfl rfl (by kernel_rfl) (fun _ _ _ h => h) (Or.inl ⟨by rfl, ?_⟩) ?_ ?_
    rotate_left
    · intro w'
      go_simp
      with_reducible rfl
    rotate_left
    · simp only [Act.put, List.setIfInBounds_toArray, List.set_cons_zero, List.set_cons_succ, i64_w, i32_w]
      rfl
    refine last_ (i := 18) (N := none) (bl 19 524287) rfl rfl (by kernel_rfl) (by decide) (fun K hK => ?_)
    refine skip_ (w1 := w3.setCell ⟨g, 7 + e.f3.toNat, none⟩ (.slice A3 (joinL (σ.th e.f3.toNat) (σ.th t)).length c3)) (by rfl) rfl ?_ ?_
    · go_simp
    refine hK.out _ _ ?_
    clear hK K
    refine done_ (by kernel_rfl) ?_
    have HFz := Aside0.mk ((HFa.out.trans (Fr.of_below HB3.out)).setCell (7 + e.f3.toNat) (.slice A3 (joinL (σ.th e.f3.toNat) (σ.th t)).length c3))
    have HDz := Aside0.mk (HE3.out.setTh e.f3.toNat HQ.out _ _ HR3.out)
    clear c0 f0 s0 s1 u2
    go_wp2
    go_end0
    rw [← HR2.out]
    exact ⟨_, rfl, HFz.out, HDz.out⟩
 | false =>
  cases h14 : e.f2 == 14 with
  | true =>
   have hr2 := HR.out
   simp only [Det.say, h12, h14, HET.out, Int.toNat_natCast, Bool.or_true, Bool.or_false, Bool.true_or, Bool.false_or, if_true, if_false, reduceIte, Bool.false_eq_true] at hr2
   have HR2 := Aside0.mk hr2
   clear hr2
   go_wp2_with (first | ((with_reducible refine gate_callee (f := 59) rfl ?_); (try (refine gate_guard (by rfl) ?_; dsimp only)); refine goesL_ (some 46) rfl rfl Try.func59 (by kernel_rfl) rfl #[.pointer (some ⟨g, 0, none⟩), .int .i64 (t : Int), .agg #[.int .u8 0, .int .i64 e.f3, .int .i64 0]] rfl (by simp [Act.eval]) ?_; refine (tell_any HDa.out HO.out t HT.out (0, e.f3, 0)).mono ?_; rintro eb wb ⟨rfl, hf, hd⟩; have HDz := Aside0.mk hd; have HFz := Aside0.mk (HFa.out.trans hf); clear hf hd; refine ⟨_, rfl, ?_⟩))
   go_end0
   rw [← HR2.out]
   exact ⟨_, rfl, HFz.out, HDz.out⟩
  | false =>
   cases h16 : e.f2 == 16 with
   | true =>
    have hr2 := HR.out
    simp only [Det.say, h12, h14, h16, HET.out, Int.toNat_natCast, Bool.or_true, Bool.or_false, Bool.true_or, Bool.false_or, if_true, if_false, reduceIte, Bool.false_eq_true] at hr2
    have HR2 := Aside0.mk hr2
    clear hr2
    go_wp2_with (first | ((with_reducible refine gate_callee (f := 59) rfl ?_); (try (refine gate_guard (by rfl) ?_; dsimp only)); refine goesL_ (some 53) rfl rfl Try.func59 (by kernel_rfl) rfl #[.pointer (some ⟨g, 0, none⟩), .int .i64 (t : Int), .agg #[.int .u8 1, .int .i64 e.f3, .int .i64 0]] rfl (by simp [Act.eval]) ?_; refine (tell_any HDa.out HO.out t HT.out (1, e.f3, 0)).mono ?_; rintro eb wb ⟨rfl, hf, hd⟩; have HDz := Aside0.mk hd; have HFz := Aside0.mk (HFa.out.trans hf); clear hf hd; refine ⟨_, rfl, ?_⟩))
    go_end0
    rw [← HR2.out]
    exact ⟨_, rfl, HFz.out, HDz.out⟩
   | false =>
    cases h18 : e.f2 == 18 with
    | true =>
     have hr2 := HR.out
     simp only [Det.say, h12, h14, h16, h18, HET.out, Int.toNat_natCast, Bool.or_true, Bool.or_false, Bool.true_or, Bool.false_or, if_true, if_false, reduceIte, Bool.false_eq_true] at hr2
     have HR2 := Aside0.mk hr2
     clear hr2
     clear HR k0 k1 k2 u4 u5
     obtain ⟨At, ct, et⟩ := Kd.R_slice (HDa.out.hth t HT.out)
     have HV := HDa.out.hth t HT.out
     rw [et] at HV
     have HVT := Aside0.mk HV
     clear HV
     have s0 : wa.drew.cell? ⟨g, 7 + t, none⟩ = some (.slice At (σ.th t).length ct) := by rw [← et]; exact (HDa.out.below (below_drew (Below.refl _ _))).th_cell t HT.out
     have s1 : wa.drew.cell? ⟨g, 13, none⟩ = some (.map (some gk)) := (blk_cell (w := wa.drew) HDa.out.hg 13).trans rfl
     have HET2 := Aside0.mk et
     clear et
     go_wp2
     refine start_ (n := 14) (S := fun w' => w'.cell? ⟨g, 7 + t, none⟩ = some (.slice At (σ.th t).length ct) ∧ w'.cell? ⟨g, 13, none⟩ = some (.map (some gk))) (ds := [13]) (bl 14 0) (by kernel_rfl) rfl rfl ⟨s0, s1⟩ (fun hHeld => ?_)
     refine pure_ (i := 0) (N := some 57) (v := ?_) (a' := ?_) (bl 14 1) rfl rfl (by kernel_rfl) (fun _ _ _ h => h) (Or.inl ⟨by rfl, ?_⟩) ?_ ?_
     rotate_left
     · intro w'
       go_simp
       with_reducible rfl
     rotate_left
     · simp only [Act.put, List.setIfInBounds_toArray, List.set_cons_zero, List.set_cons_succ, i64_w, i32_w]
       rfl
     refine pure_ (i := 1) (N := some 58) (v := ?_) (a' := ?_) (bl 14 3) rfl rfl (by kernel_rfl) (fun _ _ _ h => h) (Or.inl ⟨by rfl, ?_⟩) ?_ ?_
     rotate_left
     · intro w'
       go_simp
       with_reducible rfl
     rotate_left
     · simp only [Act.put, List.setIfInBounds_toArray, List.set_cons_zero, List.set_cons_succ, i64_w, i32_w]
       rfl
     refine pure_ (i := 2) (N := some 59) (v := ?_) (a' := ?_) (bl 14 7) rfl rfl (by kernel_rfl) (fun _ _ _ h => h) (Or.inl ⟨by rfl, ?_⟩) ?_ ?_
     rotate_left
     · intro w'
       go_simp
       with_reducible rfl
     rotate_left
     · simp only [Act.put, List.setIfInBounds_toArray, List.set_cons_zero, List.set_cons_succ, i64_w, i32_w]
       rfl
     refine pure_ (i := 4) (N := some 61) (v := ?_) (a' := ?_) (bl 14 23) rfl rfl (by kernel_rfl) (fun _ _ _ h => h) (Or.inl ⟨by rfl, ?_⟩) ?_ ?_
     rotate_left
     · intro w'
       go_simp
       with_reducible rfl
     rotate_left
     · simp only [Act.put, List.setIfInBounds_toArray, List.set_cons_zero, List.set_cons_succ, i64_w, i32_w]
       rfl
     refine pure_ (i := 5) (N := some 62) (v := ?_) (a' := ?_) (bl 14 55) rfl rfl (by kernel_rfl) (fun _ _ _ h => h) (Or.inl ⟨by rfl, ?_⟩) ?_ ?_
     rotate_left
     · intro w'
       go_simp
       with_reducible rfl
     rotate_left
     · simp only [Act.put, List.setIfInBounds_toArray, List.set_cons_zero, List.set_cons_succ, i64_w, i32_w]
       rfl
     refine pure_ (i := 6) (N := some 63) (v := ?_) (a' := ?_) (bl 14 119) rfl rfl (by kernel_rfl) (fun _ _ _ h => h) (Or.inl ⟨by rfl, ?_⟩) ?_ ?_
     rotate_left
     · intro w'
       go_simp
       with_reducible rfl
     rotate_left
     · simp only [Act.put, List.setIfInBounds_toArray, List.set_cons_zero, List.set_cons_succ, i64_w, i32_w]
       rfl
     refine pure_ (i := 7) (N := some 64) (v := ?_) (a' := ?_) (bl 14 247) rfl rfl (by kernel_rfl) (fun _ _ _ h => h) (Or.inl ⟨by rfl, ?_⟩) ?_ ?_
     rotate_left
     · intro w'
       go_simp
       with_reducible rfl
     rotate_left
     · simp only [Act.put, List.setIfInBounds_toArray, List.set_cons_zero, List.set_cons_succ, i64_w, i32_w]
       rfl
     refine pure_ (i := 8) (N := some 65) (v := ?_) (a' := ?_) (bl 14 503) rfl rfl (by kernel_rfl) (fun _ _ _ h => h) (Or.inl ⟨by rfl, ?_⟩) ?_ ?_
     rotate_left
     · intro w'
       go_simp
       with_reducible rfl
     rotate_left
     · simp only [Act.put, List.setIfInBounds_toArray, List.set_cons_zero, List.set_cons_succ, i64_w, i32_w]
       rfl
     refine pure_ (i := 9) (N := some 66) (v := ?_) (a' := ?_) (bl 14 1015) rfl rfl (by kernel_rfl) (fun _ _ _ h => h) (Or.inl ⟨by rfl, ?_⟩) ?_ ?_
     rotate_left
     · intro w'
       go_simp
       with_reducible rfl
     rotate_left
     · simp only [Act.put, List.setIfInBounds_toArray, List.set_cons_zero, List.set_cons_succ, i64_w, i32_w]
       rfl
     refine pure_ (i := 10) (N := some 67) (v := ?_) (a' := ?_) (bl 14 2039) rfl rfl (by kernel_rfl) (fun _ _ _ h => h) (Or.inl ⟨by rfl, ?_⟩) ?_ ?_
     rotate_left
     · intro w'
       go_simp
       with_reducible rfl
     rotate_left
     · simp only [Act.put, List.setIfInBounds_toArray, List.set_cons_zero, List.set_cons_succ, i64_w, i32_w]
       rfl
     refine take_ (i := 3) (N := some 60) (v := ?_) (a' := ?_) (bl 14 2047) rfl rfl (by kernel_rfl) (fun _ _ _ h => h) (Or.inl ⟨by rfl, ?_⟩) hHeld ?_ ?_
     rotate_left
     · rintro w' ⟨s0, s1⟩
       go_simp
       with_reducible rfl
     rotate_left
     · simp only [Act.put, List.setIfInBounds_toArray, List.set_cons_zero, List.set_cons_succ, i64_w, i32_w]
       rfl
     refine take_ (i := 11) (N := some 68) (v := ?_) (a' := ?_) (bl 14 4095) rfl rfl (by kernel_rfl) (fun _ _ _ h => h) (Or.inl ⟨by rfl, ?_⟩) hHeld ?_ ?_
     rotate_left
     · rintro w' ⟨s0, s1⟩
       go_simp
       with_reducible rfl
     rotate_left
     · simp only [Act.put, List.setIfInBounds_toArray, List.set_cons_zero, List.set_cons_succ, i64_w, i32_w]
       rfl
     refine one_ (i := 12) (N := some 69) (bl 14 8191) rfl rfl (by kernel_rfl) (by decide) (fun K hK => ?_)
     refine goes_ Try.func55 (by kernel_rfl) rfl #[.slice At (σ.th t).length ct] (by rfl) rfl rfl (by simp only [List.map_toArray, List.map_cons, List.map_nil]; rfl) ?_
     with_reducible refine (clone_any _ At ct (σ.th t) (Kd.R_below HVT.out (below_drew (Below.refl _ _))) (HO.out.th t)).mono ?_
     rintro e3 w3 ⟨v0, rfl, hr3, hb3⟩
     obtain ⟨A3, c3, e3v⟩ := Kd.R_slice hr3
     subst e3v
     refine ⟨_, rfl, ?_⟩
     have HB3 := Aside0.mk (below_then (below_drew (Below.refl wa.heap.size wa)) (below_drew (Below.refl wa.heap.size wa)).size hb3)
     have HE3 := Aside0.mk (HDa.out.below HB3.out)
     have HR3 := Aside0.mk (Kd.R_lower hr3 (show B ≤ _ from by have := HDa.out.ge; have := HDa.out.lt; have : wa.drew.heap.size = wa.heap.size := rfl; omega))
     obtain ⟨o3, hmu, hN3⟩ := HE3.out.setKn (2, e.f3, 0) _ _ HR3.out
     have HDz := Aside0.mk hN3
     unfold encKey at hmu
     have hmu' : (Instr.mapUpdate 74 (.map (some gk)) (.agg #[.int .u8 2, .int .i64 e.f3, .int .i64 0]) (.slice A3 (σ.th t).length c3)).run Try.prog w3 = .ok () (setBlock w3 gk o3) := hmu
     clear hmu hN3 hr3
     refine hK.out _ _ ⟨(pw_cell_below hb3 hHeld.1), (pw_cell_below hb3 hHeld.2)⟩ (fun hHeld => ?_)
     clear hK K
     refine norm_ (a' := ?_) ?_ ?_
     rotate_left
     · show Act.put _ (some 69) _ = _
       simp only [Act.put, List.setIfInBounds_toArray, List.set_cons_zero, List.set_cons_succ, i64_w, i32_w]
       rfl
     refine last_ (i := 13) (N := none) (bl 14 16383) rfl rfl (by kernel_rfl) (by decide) (fun K hK => ?_)
     refine skip_ (w1 := setBlock w3 gk o3) (by rfl) rfl ?_ ?_
     · go_simp
     refine hK.out _ _ ?_
     clear hK K
     refine done_ (by kernel_rfl) ?_
     have HFz := Aside0.mk ((HFa.out.trans (Fr.of_below HB3.out)).setBlock (.inl rfl) o3)
     clear hmu' s0 s1 u2
     go_wp2
     go_end0
     rw [← HR2.out]
     exact ⟨_, rfl, HFz.out, HDz.out⟩
    | false =>
     cases h19 : e.f2 == 19 with
     | true =>
      have hr2 := HR.out
      simp only [Det.say, h12, h14, h16, h18, h19, HET.out, Int.toNat_natCast, Bool.or_true, Bool.or_false, Bool.true_or, Bool.false_or, if_true, if_false, reduceIte, Bool.false_eq_true] at hr2
      have HR2 := Aside0.mk hr2
      clear hr2
      clear HR k0 k1 k2 u4 u5
      obtain ⟨At, ct, et⟩ := Kd.R_slice (HDa.out.hth t HT.out)
      have HV := HDa.out.hth t HT.out
      rw [et] at HV
      have HVT := Aside0.mk HV
      clear HV
      have s0 : wa.drew.cell? ⟨g, 7 + t, none⟩ = some (.slice At (σ.th t).length ct) := by rw [← et]; exact (HDa.out.below (below_drew (Below.refl _ _))).th_cell t HT.out
      have s1 : wa.drew.cell? ⟨g, 13, none⟩ = some (.map (some gk)) := (blk_cell (w := wa.drew) HDa.out.hg 13).trans rfl
      have HET2 := Aside0.mk et
      clear et
      go_wp2
      refine start_ (n := 14) (S := fun w' => w'.cell? ⟨g, 7 + t, none⟩ = some (.slice At (σ.th t).length ct) ∧ w'.cell? ⟨g, 13, none⟩ = some (.map (some gk))) (ds := [13]) (bl 14 0) (by kernel_rfl) rfl rfl ⟨s0, s1⟩ (fun hHeld => ?_)
      refine pure_ (i := 0) (N := some 57) (v := ?_) (a' := ?_) (bl 14 1) rfl rfl (by kernel_rfl) (fun _ _ _ h => h) (Or.inl ⟨by rfl, ?_⟩) ?_ ?_
      rotate_left
      · intro w'
        go_simp
        with_reducible rfl
      rotate_left
      · simp only [Act.put, List.setIfInBounds_toArray, List.set_cons_zero, List.set_cons_succ, i64_w, i32_w]
        rfl
      refine pure_ (i := 1) (N := some 58) (v := ?_) (a' := ?_) (bl 14 3) rfl rfl (by kernel_rfl) (fun _ _ _ h => h) (Or.inl ⟨by rfl, ?_⟩) ?_ ?_
      rotate_left
      · intro w'
        go_simp
        with_reducible rfl
      rotate_left
      · simp only [Act.put, List.setIfInBounds_toArray, List.set_cons_zero, List.set_cons_succ, i64_w, i32_w]
        rfl
      refine pure_ (i := 2) (N := some 59) (v := ?_) (a' := ?_) (bl 14 7) rfl rfl (by kernel_rfl) (fun _ _ _ h => h) (Or.inl ⟨by rfl, ?_⟩) ?_ ?_
      rotate_left
      · intro w'
        go_simp
        with_reducible rfl
      rotate_left
      · simp only [Act.put, List.setIfInBounds_toArray, List.set_cons_zero, List.set_cons_succ, i64_w, i32_w]
        rfl
      refine pure_ (i := 4) (N := some 61) (v := ?_) (a' := ?_) (bl 14 23) rfl rfl (by kernel_rfl) (fun _ _ _ h => h) (Or.inl ⟨by rfl, ?_⟩) ?_ ?_
      rotate_left
      · intro w'
        go_simp
        with_reducible rfl
      rotate_left
      · simp only [Act.put, List.setIfInBounds_toArray, List.set_cons_zero, List.set_cons_succ, i64_w, i32_w]
        rfl
      refine pure_ (i := 5) (N := some 62) (v := ?_) (a' := ?_) (bl 14 55) rfl rfl (by kernel_rfl) (fun _ _ _ h => h) (Or.inl ⟨by rfl, ?_⟩) ?_ ?_
      rotate_left
      · intro w'
        go_simp
        with_reducible rfl
      rotate_left
      · simp only [Act.put, List.setIfInBounds_toArray, List.set_cons_zero, List.set_cons_succ, i64_w, i32_w]
        rfl
      refine pure_ (i := 6) (N := some 63) (v := ?_) (a' := ?_) (bl 14 119) rfl rfl (by kernel_rfl) (fun _ _ _ h => h) (Or.inl ⟨by rfl, ?_⟩) ?_ ?_
      rotate_left
      · intro w'
        go_simp
        with_reducible rfl
      rotate_left
      · simp only [Act.put, List.setIfInBounds_toArray, List.set_cons_zero, List.set_cons_succ, i64_w, i32_w]
        rfl
      refine pure_ (i := 7) (N := some 64) (v := ?_) (a' := ?_) (bl 14 247) rfl rfl (by kernel_rfl) (fun _ _ _ h => h) (Or.inl ⟨by rfl, ?_⟩) ?_ ?_
      rotate_left
      · intro w'
        go_simp
        with_reducible rfl
      rotate_left
      · simp only [Act.put, List.setIfInBounds_toArray, List.set_cons_zero, List.set_cons_succ, i64_w, i32_w]
        rfl
      refine pure_ (i := 8) (N := some 65) (v := ?_) (a' := ?_) (bl 14 503) rfl rfl (by kernel_rfl) (fun _ _ _ h => h) (Or.inl ⟨by rfl, ?_⟩) ?_ ?_
      rotate_left
      · intro w'
        go_simp
        with_reducible rfl
      rotate_left
      · simp only [Act.put, List.setIfInBounds_toArray, List.set_cons_zero, List.set_cons_succ, i64_w, i32_w]
        rfl
      refine pure_ (i := 9) (N := some 66) (v := ?_) (a' := ?_) (bl 14 1015) rfl rfl (by kernel_rfl) (fun _ _ _ h => h) (Or.inl ⟨by rfl, ?_⟩) ?_ ?_
      rotate_left
      · intro w'
        go_simp
        with_reducible rfl
      rotate_left
      · simp only [Act.put, List.setIfInBounds_toArray, List.set_cons_zero, List.set_cons_succ, i64_w, i32_w]
        rfl
      refine pure_ (i := 10) (N := some 67) (v := ?_) (a' := ?_) (bl 14 2039) rfl rfl (by kernel_rfl) (fun _ _ _ h => h) (Or.inl ⟨by rfl, ?_⟩) ?_ ?_
      rotate_left
      · intro w'
        go_simp
        with_reducible rfl
      rotate_left
      · simp only [Act.put, List.setIfInBounds_toArray, List.set_cons_zero, List.set_cons_succ, i64_w, i32_w]
        rfl
      refine take_ (i := 3) (N := some 60) (v := ?_) (a' := ?_) (bl 14 2047) rfl rfl (by kernel_rfl) (fun _ _ _ h => h) (Or.inl ⟨by rfl, ?_⟩) hHeld ?_ ?_
      rotate_left
      · rintro w' ⟨s0, s1⟩
        go_simp
        with_reducible rfl
      rotate_left
      · simp only [Act.put, List.setIfInBounds_toArray, List.set_cons_zero, List.set_cons_succ, i64_w, i32_w]
        rfl
      refine take_ (i := 11) (N := some 68) (v := ?_) (a' := ?_) (bl 14 4095) rfl rfl (by kernel_rfl) (fun _ _ _ h => h) (Or.inl ⟨by rfl, ?_⟩) hHeld ?_ ?_
      rotate_left
      · rintro w' ⟨s0, s1⟩
        go_simp
        with_reducible rfl
      rotate_left
      · simp only [Act.put, List.setIfInBounds_toArray, List.set_cons_zero, List.set_cons_succ, i64_w, i32_w]
        rfl
      refine one_ (i := 12) (N := some 69) (bl 14 8191) rfl rfl (by kernel_rfl) (by decide) (fun K hK => ?_)
      refine goes_ Try.func55 (by kernel_rfl) rfl #[.slice At (σ.th t).length ct] (by rfl) rfl rfl (by simp only [List.map_toArray, List.map_cons, List.map_nil]; rfl) ?_
      with_reducible refine (clone_any _ At ct (σ.th t) (Kd.R_below HVT.out (below_drew (Below.refl _ _))) (HO.out.th t)).mono ?_
      rintro e3 w3 ⟨v0, rfl, hr3, hb3⟩
      obtain ⟨A3, c3, e3v⟩ := Kd.R_slice hr3
      subst e3v
      refine ⟨_, rfl, ?_⟩
      have HB3 := Aside0.mk (below_then (below_drew (Below.refl wa.heap.size wa)) (below_drew (Below.refl wa.heap.size wa)).size hb3)
      have HE3 := Aside0.mk (HDa.out.below HB3.out)
      have HR3 := Aside0.mk (Kd.R_lower hr3 (show B ≤ _ from by have := HDa.out.ge; have := HDa.out.lt; have : wa.drew.heap.size = wa.heap.size := rfl; omega))
      obtain ⟨o3, hmu, hN3⟩ := HE3.out.setKn (2, e.f3, 0) _ _ HR3.out
      have HDz := Aside0.mk hN3
      unfold encKey at hmu
      have hmu' : (Instr.mapUpdate 74 (.map (some gk)) (.agg #[.int .u8 2, .int .i64 e.f3, .int .i64 0]) (.slice A3 (σ.th t).length c3)).run Try.prog w3 = .ok () (setBlock w3 gk o3) := hmu
      clear hmu hN3 hr3
      refine hK.out _ _ ⟨(pw_cell_below hb3 hHeld.1), (pw_cell_below hb3 hHeld.2)⟩ (fun hHeld => ?_)
      clear hK K
      refine norm_ (a' := ?_) ?_ ?_
      rotate_left
      · show Act.put _ (some 69) _ = _
        simp only [Act.put, List.setIfInBounds_toArray, List.set_cons_zero, List.set_cons_succ, i64_w, i32_w]
        rfl
      refine last_ (i := 13) (N := none) (bl 14 16383) rfl rfl (by kernel_rfl) (by decide) (fun K hK => ?_)
      refine skip_ (w1 := setBlock w3 gk o3) (by rfl) rfl ?_ ?_
      · go_simp
      refine hK.out _ _ ?_
      clear hK K
      refine done_ (by kernel_rfl) ?_
      have HFz := Aside0.mk ((HFa.out.trans (Fr.of_below HB3.out)).setBlock (.inl rfl) o3)
      clear hmu' s0 s1 u2
      go_wp2
      go_end0
      rw [← HR2.out]
      exact ⟨_, rfl, HFz.out, HDz.out⟩
     | false =>
      cases h20 : e.f2 == 20 with
      | true =>
       have hr2 := HR.out
       simp only [Det.say, h12, h14, h16, h18, h19, h20, HET.out, Int.toNat_natCast, Bool.or_true, Bool.or_false, Bool.true_or, Bool.false_or, if_true, if_false, reduceIte, Bool.false_eq_true] at hr2
       have HR2 := Aside0.mk hr2
       clear hr2
       go_wp2_with (first | ((with_reducible refine gate_callee (f := 59) rfl ?_); (try (refine gate_guard (by rfl) ?_; dsimp only)); refine goesL_ (some 75) rfl rfl Try.func59 (by kernel_rfl) rfl #[.pointer (some ⟨g, 0, none⟩), .int .i64 (t : Int), .agg #[.int .u8 k.1, .int .i64 k.2.1, .int .i64 k.2.2]] rfl (by simp [Act.eval]) ?_; refine (tell_any HDa.out HO.out t HT.out k).mono ?_; rintro eb wb ⟨rfl, hf, hd⟩; have HDz := Aside0.mk hd; have HFz := Aside0.mk (HFa.out.trans hf); clear hf hd; refine ⟨_, rfl, ?_⟩))
       go_end0
       rw [← HR2.out]
       exact ⟨_, rfl, HFz.out, HDz.out⟩
      | false =>
       cases h21 : e.f2 == 21 with
       | true =>
        cases m1 : e.f5 == 1 with
        | true =>
         have hr2 := HR.out
         simp only [Det.say, h12, h14, h16, h18, h19, h20, h21, m1, HET.out, Int.toNat_natCast, Bool.or_true, Bool.or_false, Bool.true_or, Bool.false_or, if_true, if_false, reduceIte, Bool.false_eq_true] at hr2
         have HR2 := Aside0.mk hr2
         clear hr2
         go_wp2_with (first | ((with_reducible refine gate_callee (f := 59) rfl ?_); (try (refine gate_guard (by rfl) ?_; dsimp only)); refine goesL_ (some 85) rfl rfl Try.func59 (by kernel_rfl) rfl #[.pointer (some ⟨g, 0, none⟩), .int .i64 (t : Int), .agg #[.int .u8 k.1, .int .i64 k.2.1, .int .i64 k.2.2]] rfl (by simp [Act.eval]) ?_; refine (tell_any HDa.out HO.out t HT.out k).mono ?_; rintro eb wb ⟨rfl, hf, hd⟩; have HDz := Aside0.mk hd; have HFz := Aside0.mk (HFa.out.trans hf); clear hf hd; refine ⟨_, rfl, ?_⟩))
         go_end0
         rw [← HR2.out]
         exact ⟨_, rfl, HFz.out, HDz.out⟩
        | false =>
         have hr2 := HR.out
         simp only [Det.say, h12, h14, h16, h18, h19, h20, h21, m1, HET.out, Int.toNat_natCast, Bool.or_true, Bool.or_false, Bool.true_or, Bool.false_or, if_true, if_false, reduceIte, Bool.false_eq_true] at hr2
         have HR2 := Aside0.mk hr2
         clear hr2
         go_wp2
         go_end0
         rw [← HR2.out]
         first | exact ⟨_, rfl, HFa.out, HDa.out⟩ | exact ⟨rfl, HFa.out, _, HDa.out⟩
       | false =>
        cases h22 : e.f2 == 22 with
        | true =>
         cases m1 : e.f5 == 1 with
         | true =>
          have hr2 := HR.out
          simp only [Det.say, h12, h14, h16, h18, h19, h20, h21, h22, m1, HET.out, Int.toNat_natCast, Bool.or_true, Bool.or_false, Bool.true_or, Bool.false_or, if_true, if_false, reduceIte, Bool.false_eq_true] at hr2
          have HR2 := Aside0.mk hr2
          clear hr2
          go_wp2_with (first | ((with_reducible refine gate_callee (f := 59) rfl ?_); (try (refine gate_guard (by rfl) ?_; dsimp only)); refine goesL_ (some 85) rfl rfl Try.func59 (by kernel_rfl) rfl #[.pointer (some ⟨g, 0, none⟩), .int .i64 (t : Int), .agg #[.int .u8 k.1, .int .i64 k.2.1, .int .i64 k.2.2]] rfl (by simp [Act.eval]) ?_; refine (tell_any HDa.out HO.out t HT.out k).mono ?_; rintro eb wb ⟨rfl, hf, hd⟩; have HDz := Aside0.mk hd; have HFz := Aside0.mk (HFa.out.trans hf); clear hf hd; refine ⟨_, rfl, ?_⟩))
          go_end0
          rw [← HR2.out]
          exact ⟨_, rfl, HFz.out, HDz.out⟩
         | false =>
          have hr2 := HR.out
          simp only [Det.say, h12, h14, h16, h18, h19, h20, h21, h22, m1, HET.out, Int.toNat_natCast, Bool.or_true, Bool.or_false, Bool.true_or, Bool.false_or, if_true, if_false, reduceIte, Bool.false_eq_true] at hr2
          have HR2 := Aside0.mk hr2
          clear hr2
          go_wp2
          go_end0
          rw [← HR2.out]
          first | exact ⟨_, rfl, HFa.out, HDa.out⟩ | exact ⟨rfl, HFa.out, _, HDa.out⟩
        | false =>
         cases h23 : e.f2 == 23 with
         | true =>
          have hr2 := HR.out
          simp only [Det.say, h12, h14, h16, h18, h19, h20, h21, h22, h23, HET.out, Int.toNat_natCast, Bool.or_true, Bool.or_false, Bool.true_or, Bool.false_or, if_true, if_false, reduceIte, Bool.false_eq_true] at hr2
          have HR2 := Aside0.mk hr2
          clear hr2
          go_wp2_with (first | ((with_reducible refine gate_callee (f := 59) rfl ?_); (try (refine gate_guard (by rfl) ?_; dsimp only)); refine goesL_ (some 92) rfl rfl Try.func59 (by kernel_rfl) rfl #[.pointer (some ⟨g, 0, none⟩), .int .i64 (t : Int), .agg #[.int .u8 5, .int .i64 e.f3, .int .i64 0]] rfl (by simp [Act.eval]) ?_; refine (tell_any HDa.out HO.out t HT.out (5, e.f3, 0)).mono ?_; rintro eb wb ⟨rfl, hf, hd⟩; have HDz := Aside0.mk hd; have HFz := Aside0.mk (HFa.out.trans hf); clear hf hd; refine ⟨_, rfl, ?_⟩))
          go_end0
          rw [← HR2.out]
          exact ⟨_, rfl, HFz.out, HDz.out⟩
         | false =>
          cases h24 : e.f2 == 24 with
          | true =>
           cases m4 : decide (e.f4 < 0) with
           | true =>
            have m5 : e.f4 < 0 := of_decide_eq_true m4
            have hr2 := HR.out
            simp only [Det.say, h12, h14, h16, h18, h19, h20, h21, h22, h23, h24, m5, HET.out, Int.toNat_natCast, Bool.or_true, Bool.or_false, Bool.true_or, Bool.false_or, if_true, if_false, reduceIte, Bool.false_eq_true] at hr2
            have HR2 := Aside0.mk hr2
            clear hr2
            go_wp2_with (first | ((with_reducible refine gate_callee (f := 59) rfl ?_); (try (refine gate_guard (by rfl) ?_; dsimp only)); refine goesL_ (some 102) rfl rfl Try.func59 (by kernel_rfl) rfl #[.pointer (some ⟨g, 0, none⟩), .int .i64 (t : Int), .agg #[.int .u8 6, .int .i64 e.f3, .int .i64 0]] rfl (by simp [Act.eval]) ?_; refine (tell_any HDa.out HO.out t HT.out (6, e.f3, 0)).mono ?_; rintro eb wb ⟨rfl, hf, hd⟩; have HDz := Aside0.mk hd; have HFz := Aside0.mk (HFa.out.trans hf); clear hf hd; refine ⟨_, rfl, ?_⟩))
            go_end0
            rw [← HR2.out]
            exact ⟨_, rfl, HFz.out, HDz.out⟩
           | false =>
            have m5 : ¬ e.f4 < 0 := of_decide_eq_false m4
            have hr2 := HR.out
            simp only [Det.say, h12, h14, h16, h18, h19, h20, h21, h22, h23, h24, m5, HET.out, Int.toNat_natCast, Bool.or_true, Bool.or_false, Bool.true_or, Bool.false_or, if_true, if_false, reduceIte, Bool.false_eq_true] at hr2
            have HR2 := Aside0.mk hr2
            clear hr2
            go_wp2
            go_end0
            rw [← HR2.out]
            first | exact ⟨_, rfl, HFa.out, HDa.out⟩ | exact ⟨rfl, HFa.out, _, HDa.out⟩
          | false =>
           cases h27 : e.f2 == 27 with
           | true =>
            have hr2 := HR.out
            simp only [Det.say, h12, h14, h16, h18, h19, h20, h21, h22, h23, h24, h27, HET.out, Int.toNat_natCast, Bool.or_true, Bool.or_false, Bool.true_or, Bool.false_or, if_true, if_false, reduceIte, Bool.false_eq_true] at hr2
            have HR2 := Aside0.mk hr2
            clear hr2
            go_wp2_with (first | ((with_reducible refine gate_callee (f := 59) rfl ?_); (try (refine gate_guard (by rfl) ?_; dsimp only)); refine goesL_ (some 109) rfl rfl Try.func59 (by kernel_rfl) rfl #[.pointer (some ⟨g, 0, none⟩), .int .i64 (t : Int), .agg #[.int .u8 7, .int .i64 e.f3, .int .i64 0]] rfl (by simp [Act.eval]) ?_; refine (tell_any HDa.out HO.out t HT.out (7, e.f3, 0)).mono ?_; rintro eb wb ⟨rfl, hf, hd⟩; have HDz := Aside0.mk hd; have HFz := Aside0.mk (HFa.out.trans hf); clear hf hd; refine ⟨_, rfl, ?_⟩))
            go_end0
            rw [← HR2.out]
            exact ⟨_, rfl, HFz.out, HDz.out⟩
           | false =>
            have hr2 := HR.out
            simp only [Det.say, h12, h14, h16, h18, h19, h20, h21, h22, h23, h24, h27, HET.out, Int.toNat_natCast, Bool.or_true, Bool.or_false, Bool.true_or, Bool.false_or, if_true, if_false, reduceIte, Bool.false_eq_true] at hr2
            have HR2 := Aside0.mk hr2
            clear hr2
            go_wp2
            go_end0
            rw [← HR2.out]
            first | exact ⟨_, rfl, HFa.out, HDa.out⟩ | exact ⟨rfl, HFa.out, _, HDa.out⟩
end
end Go.Proofs.Ytblnimopffhocaa.P
