/- learn and tell, walked. -/
import Derived.Test.YtblnimopffhocaaXBits
import Derived.Test.YtblnimopffhocaaRHand1
import Derived.Outline
namespace Go.Proofs.Ytblnimopffhocaa.P
open Go.RowKit Go.Proofs.YtblnimopffhocaaW.PrintWords Go.Proofs.YtblnimopffhocaaW.PrintLast Go.Proofs.YtblnimopffhocaaW.PrintMore Go.Proofs.YtblnimopffhocaaX Go.ChangeMaps
set_option linter.unusedVariables false
set_option linter.unusedSimpArgs false
theorem join_any {B : Nat} (w : World) (A0 A1 : Option Addr) (c0 c1 : Nat) (l0 l1 : List Int) (h0 : RI w B (.slice A0 l0.length c0) l0) (h1 : RI w B (.slice A1 l1.length c1) l1) (n0 : l0.length ≤ 6) (n1 : l1.length ≤ 6) :
 Calls Try.prog 58 #[.slice A0 l0.length c0, .slice A1 l1.length c1] w fun e w' => ∃ v : Value, e = .returned v ∧ RI w' w.heap.size v (joinL l0 l1) ∧ Below w.heap.size w w' := by
 obtain ⟨_, q0, r0⟩ := Kd.R_reads' h0
 obtain ⟨_, q1, r1⟩ := Kd.R_reads' h1
 exact C.clock_Join.calls 8 A0 c0 l0 A1 c1 l1 (joinL l0 l1) w r0 q0 r1 q1 (C.join_eq _ _ _ (by unfold C.ln; omega) (by unfold C.ln; omega))
section
variable {B g gk gc gl : Nat} {w : World} {p v : Nat → Value} {σ : Det} {vo : Value} {n : Nat}
set_option maxRecDepth 100000 in
set_option maxHeartbeats 1000000 in
theorem learn_any (h : DetAt B w g gk gc gl p σ v vo) (hO : σ.Ok n) (t : Nat) (ht : t < 6) (k : Key) :
 Calls Try.prog 52 #[.pointer (some ⟨g, 0, none⟩), .int .i64 (t : Int), .agg #[.int .u8 k.1, .int .i64 k.2.1, .int .i64 k.2.2]] w fun e w' => e = .returned (.tuple #[]) ∧ Fr g gk gc gl w w' ∧ ∃ v', DetAt B w' g gk gc gl p (σ.learn t k) v' vo := by
 have HD := Aside0.mk h
 have HO := Aside0.mk hO
 have HT := Aside0.mk ht
 have p1 : (0 : Int) ≤ (t : Int) := by omega
 have p2 : (t : Int) < 6 := by omega
 clear h hO ht
 go_enter Try.func52, Try.ntmps52
 go_wp2_with (first | ((with_reducible refine gate_dst (N := 5) rfl ?_); refine box_event ?hg (N := 5) ?hd (cs := #[.int .u8 k.1, .int .i64 k.2.1, .int .i64 k.2.2]) (t := 89) ?hr ?_; (case hd => rfl); (case hg => rfl); (case hr => first | (go_simp; done) | (go_simp; rfl)); intro gb hgb wb hbb hbelb; have HBB := Aside0.mk hbb; have HLB := Aside0.mk hbelb; have HGB := Aside0.mk hgb; clear hbb hbelb hgb))
 have HE := Aside0.mk (HD.out.below HLB.out)
 obtain ⟨At, ct, et⟩ := Kd.R_slice (HE.out.hth t HT.out)
 have HV := HE.out.hth t HT.out
 rw [et] at HV
 have HVT := Aside0.mk HV
 obtain ⟨xk, hl1, hl2, hl3⟩ := HE.out.kn_look k
 obtain ⟨Ak, ck, ek⟩ := Kd.R_slice hl2
 subst ek
 have HKL := Aside0.mk hl2
 have hlk := hl3 wb.drew (below_drew (Below.refl _ _))
 unfold encKey at hlk
 have s0 : wb.drew.cell? ⟨g, 7 + t, none⟩ = some (.slice At (σ.th t).length ct) := by rw [← et]; exact (HE.out.below (below_drew (Below.refl _ _))).th_cell t HT.out
 have s1 : wb.drew.cell? ⟨g, 13, none⟩ = some (.map (some gk)) := (blk_cell (w := wb.drew) HE.out.hg 13).trans rfl
 have s2 : wb.drew.cell? ⟨gb, 0, none⟩ = some (.int .u8 k.1) := (blk_cell (w := wb.drew) HBB.out 0).trans rfl
 have s3 : wb.drew.cell? ⟨gb, 1, none⟩ = some (.int .i64 k.2.1) := (blk_cell (w := wb.drew) HBB.out 1).trans rfl
 have s4 : wb.drew.cell? ⟨gb, 2, none⟩ = some (.int .i64 k.2.2) := (blk_cell (w := wb.drew) HBB.out 2).trans rfl
 have HLL := Aside0.mk hl3
 clear HV hl1 hl2 hl3
 have HET := Aside0.mk et
 clear et
 refine start_ (n := 19) (S := fun w' => w'.cell? ⟨g, 7 + t, none⟩ = some (.slice At (σ.th t).length ct) ∧ w'.cell? ⟨g, 13, none⟩ = some (.map (some gk)) ∧ w'.cell? ⟨gb, 0, none⟩ = some (.int .u8 k.1) ∧ w'.cell? ⟨gb, 1, none⟩ = some (.int .i64 k.2.1) ∧ w'.cell? ⟨gb, 2, none⟩ = some (.int .i64 k.2.2) ∧ (Instr.lookup 74 (.map (some gk)) (.agg #[.int .u8 k.1, .int .i64 k.2.1, .int .i64 k.2.2]) false).run Try.prog w' = .ok (.slice Ak (σ.kn k).length ck) w') (ds := [14, 18]) (bl 19 0) (by kernel_rfl) rfl rfl ⟨s0, s1, s2, s3, s4, hlk⟩ (fun hHeld => ?_)
 refine pure_ (i := 0) (N := some 6) (v := ?_) (a' := ?_) (bl 19 1) rfl rfl (by kernel_rfl) (fun _ _ _ h => h) (Or.inl ⟨by rfl, ?_⟩) ?_ ?_
 rotate_left
 · intro w'
   go_simp
   with_reducible rfl
 rotate_left
 · simp only [Act.put, List.setIfInBounds_toArray, List.set_cons_zero, List.set_cons_succ, i64_w, i32_w]
   rfl
 refine pure_ (i := 1) (N := some 7) (v := ?_) (a' := ?_) (bl 19 3) rfl rfl (by kernel_rfl) (fun _ _ _ h => h) (Or.inl ⟨by rfl, ?_⟩) ?_ ?_
 rotate_left
 · intro w'
   go_simp
   with_reducible rfl
 rotate_left
 · simp only [Act.put, List.setIfInBounds_toArray, List.set_cons_zero, List.set_cons_succ, i64_w, i32_w]
   rfl
 refine pure_ (i := 2) (N := some 8) (v := ?_) (a' := ?_) (bl 19 7) rfl rfl (by kernel_rfl) (fun _ _ _ h => h) (Or.inl ⟨by rfl, ?_⟩) ?_ ?_
 rotate_left
 · intro w'
   go_simp
   with_reducible rfl
 rotate_left
 · simp only [Act.put, List.setIfInBounds_toArray, List.set_cons_zero, List.set_cons_succ, i64_w, i32_w]
   rfl
 refine pure_ (i := 3) (N := some 9) (v := ?_) (a' := ?_) (bl 19 15) rfl rfl (by kernel_rfl) (fun _ _ _ h => h) (Or.inl ⟨by rfl, ?_⟩) ?_ ?_
 rotate_left
 · intro w'
   go_simp
   with_reducible rfl
 rotate_left
 · simp only [Act.put, List.setIfInBounds_toArray, List.set_cons_zero, List.set_cons_succ, i64_w, i32_w]
   rfl
 refine pure_ (i := 4) (N := some 10) (v := ?_) (a' := ?_) (bl 19 31) rfl rfl (by kernel_rfl) (fun _ _ _ h => h) (Or.inl ⟨by rfl, ?_⟩) ?_ ?_
 rotate_left
 · intro w'
   go_simp
   with_reducible rfl
 rotate_left
 · simp only [Act.put, List.setIfInBounds_toArray, List.set_cons_zero, List.set_cons_succ, i64_w, i32_w]
   rfl
 refine pure_ (i := 5) (N := some 11) (v := ?_) (a' := ?_) (bl 19 63) rfl rfl (by kernel_rfl) (fun _ _ _ h => h) (Or.inl ⟨by rfl, ?_⟩) ?_ ?_
 rotate_left
 · intro w'
   go_simp
   with_reducible rfl
 rotate_left
 · simp only [Act.put, List.setIfInBounds_toArray, List.set_cons_zero, List.set_cons_succ, i64_w, i32_w]
   rfl
 refine pure_ (i := 6) (N := some 12) (v := ?_) (a' := ?_) (bl 19 127) rfl rfl (by kernel_rfl) (fun _ _ _ h => h) (Or.inl ⟨by rfl, ?_⟩) ?_ ?_
 rotate_left
 · intro w'
   go_simp
   with_reducible rfl
 rotate_left
 · simp only [Act.put, List.setIfInBounds_toArray, List.set_cons_zero, List.set_cons_succ, i64_w, i32_w]
   rfl
 refine pure_ (i := 8) (N := some 14) (v := ?_) (a' := ?_) (bl 19 383) rfl rfl (by kernel_rfl) (fun _ _ _ h => h) (Or.inl ⟨by rfl, ?_⟩) ?_ ?_
 rotate_left
 · intro w'
   go_simp
   with_reducible rfl
 rotate_left
 · simp only [Act.put, List.setIfInBounds_toArray, List.set_cons_zero, List.set_cons_succ, i64_w, i32_w]
   rfl
 refine pure_ (i := 9) (N := some 15) (v := ?_) (a' := ?_) (bl 19 895) rfl rfl (by kernel_rfl) (fun _ _ _ h => h) (Or.inl ⟨by rfl, ?_⟩) ?_ ?_
 rotate_left
 · intro w'
   go_simp
   with_reducible rfl
 rotate_left
 · simp only [Act.put, List.setIfInBounds_toArray, List.set_cons_zero, List.set_cons_succ, i64_w, i32_w]
   rfl
 refine pure_ (i := 10) (N := some 16) (v := ?_) (a' := ?_) (bl 19 1919) rfl rfl (by kernel_rfl) (fun _ _ _ h => h) (Or.inl ⟨by rfl, ?_⟩) ?_ ?_
 rotate_left
 · intro w'
   go_simp
   with_reducible rfl
 rotate_left
 · simp only [Act.put, List.setIfInBounds_toArray, List.set_cons_zero, List.set_cons_succ, i64_w, i32_w]
   rfl
 refine pure_ (i := 15) (N := some 21) (v := ?_) (a' := ?_) (bl 19 34687) rfl rfl (by kernel_rfl) (fun _ _ _ h => h) (Or.inl ⟨by rfl, ?_⟩) ?_ ?_
 rotate_left
 · intro w'
   go_simp
   with_reducible rfl
 rotate_left
 · simp only [Act.put, List.setIfInBounds_toArray, List.set_cons_zero, List.set_cons_succ, i64_w, i32_w]
   rfl
 refine pure_ (i := 16) (N := some 22) (v := ?_) (a' := ?_) (bl 19 100223) rfl rfl (by kernel_rfl) (fun _ _ _ h => h) (Or.inl ⟨by rfl, ?_⟩) ?_ ?_
 rotate_left
 · intro w'
   go_simp
   with_reducible rfl
 rotate_left
 · simp only [Act.put, List.setIfInBounds_toArray, List.set_cons_zero, List.set_cons_succ, i64_w, i32_w]
   rfl
 refine take_ (i := 7) (N := some 13) (v := ?_) (a' := ?_) (bl 19 100351) rfl rfl (by kernel_rfl) (fun _ _ _ h => h) (Or.inl ⟨by rfl, ?_⟩) hHeld ?_ ?_
 rotate_left
 · rintro w' ⟨s0, s1, s2, s3, s4, s5⟩
   go_simp
   with_reducible rfl
 rotate_left
 · simp only [Act.put, List.setIfInBounds_toArray, List.set_cons_zero, List.set_cons_succ, i64_w, i32_w]
   rfl
 refine take_ (i := 11) (N := some 17) (v := ?_) (a' := ?_) (bl 19 102399) rfl rfl (by kernel_rfl) (fun _ _ _ h => h) (Or.inl ⟨by rfl, ?_⟩) hHeld ?_ ?_
 rotate_left
 · rintro w' ⟨s0, s1, s2, s3, s4, s5⟩
   go_simp
   with_reducible rfl
 rotate_left
 · simp only [Act.put, List.setIfInBounds_toArray, List.set_cons_zero, List.set_cons_succ, i64_w, i32_w]
   rfl
 refine take_ (i := 12) (N := some 18) (v := ?_) (a' := ?_) (bl 19 106495) rfl rfl (by kernel_rfl) (fun _ _ _ h => h) (Or.inl ⟨by rfl, ?_⟩) hHeld ?_ ?_
 rotate_left
 · rintro w' ⟨s0, s1, s2, s3, s4, s5⟩
   go_simp
   with_reducible rfl
 rotate_left
 · simp only [Act.put, List.setIfInBounds_toArray, List.set_cons_zero, List.set_cons_succ, i64_w, i32_w]
   rfl
 refine take_ (i := 13) (N := some 19) (v := ?_) (a' := ?_) (bl 19 114687) rfl rfl (by kernel_rfl) (fun _ _ _ h => h) (Or.inl ⟨by rfl, ?_⟩) hHeld ?_ ?_
 rotate_left
 · rintro w' ⟨s0, s1, s2, s3, s4, s5⟩
   go_simp
   with_reducible rfl
 rotate_left
 · simp only [Act.put, List.setIfInBounds_toArray, List.set_cons_zero, List.set_cons_succ, i64_w, i32_w]
   rfl
 refine last_ (i := 14) (N := some 20) (bl 19 131071) rfl rfl (by kernel_rfl) (by decide) (fun K hK => ?_)
 refine goes_ Try.func58 (by kernel_rfl) rfl #[.slice At (σ.th t).length ct, .slice Ak (σ.kn k).length ck] (by rfl) rfl rfl (by simp only [List.map_toArray, List.map_cons, List.map_nil]; rfl) ?_
 with_reducible refine (join_any _ At Ak ct ck (σ.th t) (σ.kn k) (Kd.R_below HVT.out (below_drew (Below.refl _ _))) (Kd.R_below HKL.out (below_drew (Below.refl _ _))) (HO.out.th t) (HO.out.kn k)).mono ?_
 rintro e3 w3 ⟨v0, rfl, hr3, hb3⟩
 obtain ⟨A3, c3, e3v⟩ := Kd.R_slice hr3
 subst e3v
 refine ⟨_, rfl, ?_⟩
 have HB3 := Aside0.mk (below_then (below_drew (Below.refl wb.heap.size wb)) (below_drew (Below.refl wb.heap.size wb)).size hb3)
 have HE3 := Aside0.mk (HE.out.below HB3.out)
 have c0 := HE3.out.th_cell t HT.out
 have f0 := HE3.out.frozen (7 + t)
 have HR3 := Aside0.mk (Kd.R_lower hr3 (show B ≤ _ from by have := HE.out.ge; have := HE.out.lt; have : wb.drew.heap.size = wb.heap.size := rfl; omega))
 clear hr3 hb3
 refine hK.out _ _ ?_
 clear hK K
 refine norm_ (a' := ?_) ?_ ?_
 rotate_left
 · show Act.put _ (some 20) _ = _
   simp only [Act.put, List.setIfInBounds_toArray, List.set_cons_zero, List.set_cons_succ, i64_w, i32_w]
   rfl
 refine pure_ (i := 17) (N := some 23) (v := ?_) (a' := ?_) (bl 19 262143) rfl rfl (by kernel_rfl) (fun _ _ _ h => h) (Or.inl ⟨by rfl, ?_⟩) ?_ ?_
 rotate_left
 · intro w'
   go_simp
   with_reducible rfl
 rotate_left
 · simp only [Act.put, List.setIfInBounds_toArray, List.set_cons_zero, List.set_cons_succ, i64_w, i32_w]
   rfl
 refine last_ (i := 18) (N := none) (bl 19 524287) rfl rfl (by kernel_rfl) (by decide) (fun K hK => ?_)
 refine skip_ (w1 := w3.setCell ⟨g, 7 + t, none⟩ (.slice A3 (joinL (σ.th t) (σ.kn k)).length c3)) (by rfl) rfl ?_ ?_
 · go_simp
 refine hK.out _ _ ?_
 clear hK K
 refine done_ (by kernel_rfl) ?_
 have HF := Aside0.mk (Fr.setCell (g := g) (gk := gk) (gc := gc) (gl := gl) (Fr.of_below (below_then HLB.out HLB.out.size HB3.out)) (7 + t) (.slice A3 (joinL (σ.th t) (σ.kn k)).length c3))
 have HN := Aside0.mk (HE3.out.setTh t HT.out _ _ HR3.out)
 clear c0 f0 s0 s1 s2 s3 s4 hlk
 go_wp2
 go_end0
 exact ⟨rfl, HF.out, _, HN.out⟩
set_option maxRecDepth 100000 in
set_option maxHeartbeats 1000000 in
theorem tell_any (h : DetAt B w g gk gc gl p σ v vo) (hO : σ.Ok n) (t : Nat) (ht : t < 6) (k : Key) :
 Calls Try.prog 59 #[.pointer (some ⟨g, 0, none⟩), .int .i64 (t : Int), .agg #[.int .u8 k.1, .int .i64 k.2.1, .int .i64 k.2.2]] w fun e w' => e = .returned (.tuple #[]) ∧ Fr g gk gc gl w w' ∧ DetAt B w' g gk gc gl p (σ.tell t k) v vo := by
 have HD := Aside0.mk h
 have HO := Aside0.mk hO
 have HT := Aside0.mk ht
 have p1 : (0 : Int) ≤ (t : Int) := by omega
 have p2 : (t : Int) < 6 := by omega
 clear h hO ht
 go_enter Try.func59, Try.ntmps59
 go_wp2_with (first | ((with_reducible refine gate_dst (N := 5) rfl ?_); refine box_event ?hg (N := 5) ?hd (cs := #[.int .u8 k.1, .int .i64 k.2.1, .int .i64 k.2.2]) (t := 89) ?hr ?_; (case hd => rfl); (case hg => rfl); (case hr => first | (go_simp; done) | (go_simp; rfl)); intro gb hgb wb hbb hbelb; have HBB := Aside0.mk hbb; have HLB := Aside0.mk hbelb; have HGB := Aside0.mk hgb; clear hbb hbelb hgb))
 have HE := Aside0.mk (HD.out.below HLB.out)
 obtain ⟨At, ct, et⟩ := Kd.R_slice (HE.out.hth t HT.out)
 have HV := HE.out.hth t HT.out
 rw [et] at HV
 have HVT := Aside0.mk HV
 obtain ⟨xk, hl1, hl2, hl3⟩ := HE.out.kn_look k
 obtain ⟨Ak, ck, ek⟩ := Kd.R_slice hl2
 subst ek
 have HKL := Aside0.mk hl2
 have hlk := hl3 wb.drew (below_drew (Below.refl _ _))
 unfold encKey at hlk
 have s0 : wb.drew.cell? ⟨g, 7 + t, none⟩ = some (.slice At (σ.th t).length ct) := by rw [← et]; exact (HE.out.below (below_drew (Below.refl _ _))).th_cell t HT.out
 have s1 : wb.drew.cell? ⟨g, 13, none⟩ = some (.map (some gk)) := (blk_cell (w := wb.drew) HE.out.hg 13).trans rfl
 have s2 : wb.drew.cell? ⟨gb, 0, none⟩ = some (.int .u8 k.1) := (blk_cell (w := wb.drew) HBB.out 0).trans rfl
 have s3 : wb.drew.cell? ⟨gb, 1, none⟩ = some (.int .i64 k.2.1) := (blk_cell (w := wb.drew) HBB.out 1).trans rfl
 have s4 : wb.drew.cell? ⟨gb, 2, none⟩ = some (.int .i64 k.2.2) := (blk_cell (w := wb.drew) HBB.out 2).trans rfl
 have HLL := Aside0.mk hl3
 clear HV hl1 hl2 hl3
 have HET := Aside0.mk et
 clear et
 refine start_ (n := 19) (S := fun w' => w'.cell? ⟨g, 7 + t, none⟩ = some (.slice At (σ.th t).length ct) ∧ w'.cell? ⟨g, 13, none⟩ = some (.map (some gk)) ∧ w'.cell? ⟨gb, 0, none⟩ = some (.int .u8 k.1) ∧ w'.cell? ⟨gb, 1, none⟩ = some (.int .i64 k.2.1) ∧ w'.cell? ⟨gb, 2, none⟩ = some (.int .i64 k.2.2) ∧ (Instr.lookup 74 (.map (some gk)) (.agg #[.int .u8 k.1, .int .i64 k.2.1, .int .i64 k.2.2]) false).run Try.prog w' = .ok (.slice Ak (σ.kn k).length ck) w') (ds := [18]) (bl 19 0) (by kernel_rfl) rfl rfl ⟨s0, s1, s2, s3, s4, hlk⟩ (fun hHeld => ?_)
 refine pure_ (i := 0) (N := some 6) (v := ?_) (a' := ?_) (bl 19 1) rfl rfl (by kernel_rfl) (fun _ _ _ h => h) (Or.inl ⟨by rfl, ?_⟩) ?_ ?_
 rotate_left
 · intro w'
   go_simp
   with_reducible rfl
 rotate_left
 · simp only [Act.put, List.setIfInBounds_toArray, List.set_cons_zero, List.set_cons_succ, i64_w, i32_w]
   rfl
 refine pure_ (i := 1) (N := some 7) (v := ?_) (a' := ?_) (bl 19 3) rfl rfl (by kernel_rfl) (fun _ _ _ h => h) (Or.inl ⟨by rfl, ?_⟩) ?_ ?_
 rotate_left
 · intro w'
   go_simp
   with_reducible rfl
 rotate_left
 · simp only [Act.put, List.setIfInBounds_toArray, List.set_cons_zero, List.set_cons_succ, i64_w, i32_w]
   rfl
 refine pure_ (i := 2) (N := some 8) (v := ?_) (a' := ?_) (bl 19 7) rfl rfl (by kernel_rfl) (fun _ _ _ h => h) (Or.inl ⟨by rfl, ?_⟩) ?_ ?_
 rotate_left
 · intro w'
   go_simp
   with_reducible rfl
 rotate_left
 · simp only [Act.put, List.setIfInBounds_toArray, List.set_cons_zero, List.set_cons_succ, i64_w, i32_w]
   rfl
 refine pure_ (i := 5) (N := some 11) (v := ?_) (a' := ?_) (bl 19 39) rfl rfl (by kernel_rfl) (fun _ _ _ h => h) (Or.inl ⟨by rfl, ?_⟩) ?_ ?_
 rotate_left
 · intro w'
   go_simp
   with_reducible rfl
 rotate_left
 · simp only [Act.put, List.setIfInBounds_toArray, List.set_cons_zero, List.set_cons_succ, i64_w, i32_w]
   rfl
 refine pure_ (i := 6) (N := some 12) (v := ?_) (a' := ?_) (bl 19 103) rfl rfl (by kernel_rfl) (fun _ _ _ h => h) (Or.inl ⟨by rfl, ?_⟩) ?_ ?_
 rotate_left
 · intro w'
   go_simp
   with_reducible rfl
 rotate_left
 · simp only [Act.put, List.setIfInBounds_toArray, List.set_cons_zero, List.set_cons_succ, i64_w, i32_w]
   rfl
 refine pure_ (i := 7) (N := some 13) (v := ?_) (a' := ?_) (bl 19 231) rfl rfl (by kernel_rfl) (fun _ _ _ h => h) (Or.inl ⟨by rfl, ?_⟩) ?_ ?_
 rotate_left
 · intro w'
   go_simp
   with_reducible rfl
 rotate_left
 · simp only [Act.put, List.setIfInBounds_toArray, List.set_cons_zero, List.set_cons_succ, i64_w, i32_w]
   rfl
 refine pure_ (i := 11) (N := some 17) (v := ?_) (a' := ?_) (bl 19 2279) rfl rfl (by kernel_rfl) (fun _ _ _ h => h) (Or.inl ⟨by rfl, ?_⟩) ?_ ?_
 rotate_left
 · intro w'
   go_simp
   with_reducible rfl
 rotate_left
 · simp only [Act.put, List.setIfInBounds_toArray, List.set_cons_zero, List.set_cons_succ, i64_w, i32_w]
   rfl
 refine pure_ (i := 12) (N := some 18) (v := ?_) (a' := ?_) (bl 19 6375) rfl rfl (by kernel_rfl) (fun _ _ _ h => h) (Or.inl ⟨by rfl, ?_⟩) ?_ ?_
 rotate_left
 · intro w'
   go_simp
   with_reducible rfl
 rotate_left
 · simp only [Act.put, List.setIfInBounds_toArray, List.set_cons_zero, List.set_cons_succ, i64_w, i32_w]
   rfl
 refine pure_ (i := 13) (N := some 19) (v := ?_) (a' := ?_) (bl 19 14567) rfl rfl (by kernel_rfl) (fun _ _ _ h => h) (Or.inl ⟨by rfl, ?_⟩) ?_ ?_
 rotate_left
 · intro w'
   go_simp
   with_reducible rfl
 rotate_left
 · simp only [Act.put, List.setIfInBounds_toArray, List.set_cons_zero, List.set_cons_succ, i64_w, i32_w]
   rfl
 refine pure_ (i := 14) (N := some 20) (v := ?_) (a' := ?_) (bl 19 30951) rfl rfl (by kernel_rfl) (fun _ _ _ h => h) (Or.inl ⟨by rfl, ?_⟩) ?_ ?_
 rotate_left
 · intro w'
   go_simp
   with_reducible rfl
 rotate_left
 · simp only [Act.put, List.setIfInBounds_toArray, List.set_cons_zero, List.set_cons_succ, i64_w, i32_w]
   rfl
 refine pure_ (i := 15) (N := some 21) (v := ?_) (a' := ?_) (bl 19 63719) rfl rfl (by kernel_rfl) (fun _ _ _ h => h) (Or.inl ⟨by rfl, ?_⟩) ?_ ?_
 rotate_left
 · intro w'
   go_simp
   with_reducible rfl
 rotate_left
 · simp only [Act.put, List.setIfInBounds_toArray, List.set_cons_zero, List.set_cons_succ, i64_w, i32_w]
   rfl
 refine take_ (i := 3) (N := some 9) (v := ?_) (a' := ?_) (bl 19 63727) rfl rfl (by kernel_rfl) (fun _ _ _ h => h) (Or.inl ⟨by rfl, ?_⟩) hHeld ?_ ?_
 rotate_left
 · rintro w' ⟨s0, s1, s2, s3, s4, s5⟩
   go_simp
   with_reducible rfl
 rotate_left
 · simp only [Act.put, List.setIfInBounds_toArray, List.set_cons_zero, List.set_cons_succ, i64_w, i32_w]
   rfl
 refine take_ (i := 4) (N := some 10) (v := ?_) (a' := ?_) (bl 19 63743) rfl rfl (by kernel_rfl) (fun _ _ _ h => h) (Or.inl ⟨by rfl, ?_⟩) hHeld ?_ ?_
 rotate_left
 · rintro w' ⟨s0, s1, s2, s3, s4, s5⟩
   go_simp
   with_reducible rfl
 rotate_left
 · simp only [Act.put, List.setIfInBounds_toArray, List.set_cons_zero, List.set_cons_succ, i64_w, i32_w]
   rfl
 refine take_ (i := 8) (N := some 14) (v := ?_) (a' := ?_) (bl 19 63999) rfl rfl (by kernel_rfl) (fun _ _ _ h => h) (Or.inl ⟨by rfl, ?_⟩) hHeld ?_ ?_
 rotate_left
 · rintro w' ⟨s0, s1, s2, s3, s4, s5⟩
   go_simp
   with_reducible rfl
 rotate_left
 · simp only [Act.put, List.setIfInBounds_toArray, List.set_cons_zero, List.set_cons_succ, i64_w, i32_w]
   rfl
 refine take_ (i := 9) (N := some 15) (v := ?_) (a' := ?_) (bl 19 64511) rfl rfl (by kernel_rfl) (fun _ _ _ h => h) (Or.inl ⟨by rfl, ?_⟩) hHeld ?_ ?_
 rotate_left
 · rintro w' ⟨s0, s1, s2, s3, s4, s5⟩
   go_simp
   with_reducible rfl
 rotate_left
 · simp only [Act.put, List.setIfInBounds_toArray, List.set_cons_zero, List.set_cons_succ, i64_w, i32_w]
   rfl
 refine take_ (i := 10) (N := some 16) (v := ?_) (a' := ?_) (bl 19 65535) rfl rfl (by kernel_rfl) (fun _ _ _ h => h) (Or.inl ⟨by rfl, ?_⟩) hHeld ?_ ?_
 rotate_left
 · rintro w' ⟨s0, s1, s2, s3, s4, s5⟩
   go_simp
   with_reducible rfl
 rotate_left
 · simp only [Act.put, List.setIfInBounds_toArray, List.set_cons_zero, List.set_cons_succ, i64_w, i32_w]
   rfl
 refine take_ (i := 16) (N := some 22) (v := ?_) (a' := ?_) (bl 19 131071) rfl rfl (by kernel_rfl) (fun _ _ _ h => h) (Or.inl ⟨by rfl, ?_⟩) hHeld ?_ ?_
 rotate_left
 · rintro w' ⟨s0, s1, s2, s3, s4, s5⟩
   go_simp
   with_reducible rfl
 rotate_left
 · simp only [Act.put, List.setIfInBounds_toArray, List.set_cons_zero, List.set_cons_succ, i64_w, i32_w]
   rfl
 refine one_ (i := 17) (N := some 23) (bl 19 262143) rfl rfl (by kernel_rfl) (by decide) (fun K hK => ?_)
 refine goes_ Try.func58 (by kernel_rfl) rfl #[.slice Ak (σ.kn k).length ck, .slice At (σ.th t).length ct] (by rfl) rfl rfl (by simp only [List.map_toArray, List.map_cons, List.map_nil]; rfl) ?_
 with_reducible refine (join_any _ Ak At ck ct (σ.kn k) (σ.th t) (Kd.R_below HKL.out (below_drew (Below.refl _ _))) (Kd.R_below HVT.out (below_drew (Below.refl _ _))) (HO.out.kn k) (HO.out.th t)).mono ?_
 rintro e3 w3 ⟨v0, rfl, hr3, hb3⟩
 obtain ⟨A3, c3, e3v⟩ := Kd.R_slice hr3
 subst e3v
 refine ⟨_, rfl, ?_⟩
 have HB3 := Aside0.mk (below_then (below_drew (Below.refl wb.heap.size wb)) (below_drew (Below.refl wb.heap.size wb)).size hb3)
 have HE3 := Aside0.mk (HE.out.below HB3.out)
 have HR3 := Aside0.mk (Kd.R_lower hr3 (show B ≤ _ from by have := HE.out.ge; have := HE.out.lt; have : wb.drew.heap.size = wb.heap.size := rfl; omega))
 clear hr3
 obtain ⟨o3, hmu, hN3⟩ := HE3.out.setKn k _ _ HR3.out
 have HN := Aside0.mk hN3
 unfold encKey at hmu
 have hmu' : (Instr.mapUpdate 74 (.map (some gk)) (.agg #[.int .u8 k.1, .int .i64 k.2.1, .int .i64 k.2.2]) (.slice A3 (joinL (σ.kn k) (σ.th t)).length c3)).run Try.prog w3 = .ok () (setBlock w3 gk o3) := hmu
 clear hmu hN3
 refine hK.out _ _ ⟨(pw_cell_below hb3 hHeld.1), (pw_cell_below hb3 hHeld.2.1), (pw_cell_below hb3 hHeld.2.2.1), (pw_cell_below hb3 hHeld.2.2.2.1), (pw_cell_below hb3 hHeld.2.2.2.2.1), (HLL.out w3 HB3.out)⟩ (fun hHeld => ?_)
 clear hK K
 refine norm_ (a' := ?_) ?_ ?_
 rotate_left
 · show Act.put _ (some 23) _ = _
   simp only [Act.put, List.setIfInBounds_toArray, List.set_cons_zero, List.set_cons_succ, i64_w, i32_w]
   rfl
 refine last_ (i := 18) (N := none) (bl 19 524287) rfl rfl (by kernel_rfl) (by decide) (fun K hK => ?_)
 refine skip_ (w1 := setBlock w3 gk o3) (by rfl) rfl ?_ ?_
 · go_simp
 refine hK.out _ _ ?_
 clear hK K
 refine done_ (by kernel_rfl) ?_
 have HF := Aside0.mk (Fr.setBlock (g := g) (gk := gk) (gc := gc) (gl := gl) (Fr.of_below (below_then HLB.out HLB.out.size HB3.out)) (.inl rfl) o3)
 clear s0 s1 s2 s3 s4 hlk hmu'
 go_wp2
 go_end0
 exact ⟨rfl, HF.out, HN.out⟩
end
end Go.Proofs.Ytblnimopffhocaa.P
