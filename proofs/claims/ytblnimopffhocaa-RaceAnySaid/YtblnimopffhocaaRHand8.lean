/- event, walked. -/
import Derived.Test.YtblnimopffhocaaXBits
import Derived.Test.YtblnimopffhocaaRHand7
namespace Go.Proofs.Ytblnimopffhocaa.P
open Go.RowKit Go.Proofs.YtblnimopffhocaaW.PrintWords Go.Proofs.YtblnimopffhocaaW.PrintLast Go.Proofs.YtblnimopffhocaaW.PrintMore Go.Proofs.YtblnimopffhocaaX Go.ChangeMaps
set_option linter.unusedVariables false
set_option linter.unusedSimpArgs false
section
variable {B g gq gc gl : Nat} {W w : World} {p v : Nat → Value} {σ : Det} {vo : Value} {n : Nat}
theorem touch_or {b7 b8 : Bool} (h : (b7 || b8) = true) (hx : b7 = true → b8 = false) : (b7 = true ∧ b8 = false) ∨ (b7 = false ∧ b8 = true) := by
 cases b7 <;> cases b8 <;> simp_all
def Done (B : Nat) (W : World) (g gq gc gl : Nat) (p : Nat → Value) (r : Det) (en : Ending) (w' : World) : Prop := ∃ v' vo', en = .returned (.tuple #[]) ∧ Below B W w' ∧ DetAt B w' g gq gc gl p r v' vo'
set_option maxRecDepth 100000 in
set_option maxHeartbeats 8000000 in
theorem event_any (h : DetAt B w g gq gc gl p σ v vo) (hO : σ.Ok n) (hn : n + 1 ≤ 1000000000) (hW : Below B W w) (A3 : Option Addr) (c3 : Nat) (l3 : List Int) (hp : p 3 = .slice A3 l3.length c3) (hC3 : ∀ w', Below B W w' → Kd.C (Kd.int .i64) w' A3 l3.length l3)
 (i : Int) (e : S40) (t : Nat) (het : e.f0 = (t : Int)) (ht : t < 6) (r : Det) (hr : σ.event l3 i e = r) :
 Calls Try.prog 30 #[.pointer (some ⟨g, 0, none⟩), .int .i64 i, .agg #[.int .i64 (t : Int), .int .i64 e.f1, .int .u8 e.f2, .int .i64 e.f3, .int .i64 e.f4, .int .i64 e.f5]] w (Done B W g gq gc gl p r) := by
 obtain ⟨hd, hhd⟩ : ∃ x, σ.hear l3 e = x := ⟨_, rfl⟩
 have hO1 := hO.hear l3 e
 have hO1o : (σ.hear l3 e).1.out.length ≤ 6 * n := by rw [Det.hear_out]; exact hO.out
 rw [hhd] at hO1 hO1o
 have HSZ : Aside0 (B ≤ w.heap.size) := ⟨by have := h.ge; have := h.lt; omega⟩
 have HGE := Aside0.mk h.ge
 have HGL := Aside0.mk h.lt
 have HD := Aside0.mk h
 have HO := Aside0.mk hO
 have HO1 := Aside0.mk hO1
 have HO1o := Aside0.mk hO1o
 have HNN := Aside0.mk hn
 have HW := Aside0.mk hW
 have HP := Aside0.mk hp
 have HC3 := Aside0.mk hC3
 have HT := Aside0.mk ht
 have HR := Aside0.mk hr
 have HET := Aside0.mk het
 have HHD := Aside0.mk hhd
 have p1 : (0 : Int) ≤ (t : Int) := by omega
 have p2 : (t : Int) < 6 := by omega
 clear h hO hO1 hO1o hn hW hp hC3 ht hr het hhd
 go_enter Try.func30, Try.ntmps30
 go_wp2_with (first | ((with_reducible refine gate_dst (N := 5) rfl ?_); refine box_event ?hg (N := 5) ?hd (cs := #[.int .i64 (t : Int), .int .i64 e.f1, .int .u8 e.f2, .int .i64 e.f3, .int .i64 e.f4, .int .i64 e.f5]) (t := 40) ?hr ?_; (case hd => rfl); (case hg => rfl); (case hr => first | (go_simp; done) | (go_simp; rfl)); intro g5 hg5_ w1 hbg5_ hlg5_; have HNg5 := Aside0.mk hg5_; have HBg5 := Aside0.mk hbg5_; have HLg5 := Aside0.mk hlg5_; clear hg5_ hbg5_ hlg5_; have s50 : w1.cell? ⟨g5, 0, none⟩ = some (.int .i64 (t : Int)) := (blk_cell HBg5.out 0).trans rfl; have s51 : w1.cell? ⟨g5, 1, none⟩ = some (.int .i64 e.f1) := (blk_cell HBg5.out 1).trans rfl; have s52 : w1.cell? ⟨g5, 2, none⟩ = some (.int .u8 e.f2) := (blk_cell HBg5.out 2).trans rfl; have s53 : w1.cell? ⟨g5, 3, none⟩ = some (.int .i64 e.f3) := (blk_cell HBg5.out 3).trans rfl; have s54 : w1.cell? ⟨g5, 4, none⟩ = some (.int .i64 e.f4) := (blk_cell HBg5.out 4).trans rfl; have s55 : w1.cell? ⟨g5, 5, none⟩ = some (.int .i64 e.f5) := (blk_cell HBg5.out 5).trans rfl) | ((with_reducible refine gate_callee (f := 38) rfl ?_); (try (refine gate_guard (by rfl) ?_; dsimp only)); (refine goesL_ (some 13) rfl rfl Try.func38 (by kernel_rfl) rfl #[.pointer (some ⟨g, 0, none⟩), .agg #[.int .i64 (t : Int), .int .i64 e.f1, .int .u8 e.f2, .int .i64 e.f3, .int .i64 e.f4, .int .i64 e.f5]] rfl (by simp [Act.eval]) ?_; refine (hear_any (HD.out.below HLg5.out) HO.out (Nat.le_trans (Nat.le_succ n) HNN.out) A3 c3 l3 HP.out (fun w' hf => HC3.out w' (hf.below (below_then HW.out HSZ.out HLg5.out) (by have := HLg5.out.size; have := HSZ.out; omega) HGE.out)) e t HET.out HT.out hd HHD.out).mono ?_; rintro eh wh ⟨vh, rfl, hf, hdd⟩; have HDh := Aside0.mk hdd; have HWh : Aside0 (Below B W wh) := ⟨hf.below (below_then HW.out HSZ.out HLg5.out) (by have := HLg5.out.size; have := HSZ.out; omega) HGE.out⟩; have HE5 : Aside0 (wh.heap[g5]? = some (.cells #[.int .i64 e.f0, .int .i64 e.f1, .int .u8 e.f2, .int .i64 e.f3, .int .i64 e.f4, .int .i64 e.f5] 40 (0, 0))) := ⟨(hf.block g5 (blk_lt HBg5.out) (by have := HGL.out; have := HNg5.out; omega) (by have := HGL.out; have := HNg5.out; omega) (by have := HGL.out; have := HNg5.out; omega) (by have := HGL.out; have := HNg5.out; omega)).trans (by rw [HBg5.out, HET.out])⟩; clear hf hdd; refine ⟨_, rfl, ?_⟩)) | ((with_reducible refine gate_dst (N := 6) rfl ?_); refine box_event ?hg (N := 6) ?hd (cs := #[.int .u8 0, .int .i64 0, .int .i64 0]) (t := 89) ?hr ?_; (case hd => rfl); (case hg => rfl); (case hr => first | (go_simp; done) | (go_simp; rfl)); intro g6 hg6_ wx hbg6_ hlg6_; have HNg6 := Aside0.mk hg6_; have HBg6 := Aside0.mk hbg6_; have HLg6 := Aside0.mk hlg6_; clear hg6_ hbg6_ hlg6_) | ((with_reducible refine gate_store (t := 89) (p := 6) rfl ?_); (have hs0 : wx.cell? ⟨g6, 0, none⟩ = some (.int .u8 0) := (blk_cell HBg6.out 0).trans rfl; have hf0 : wx.frozen? ⟨g6, 0, none⟩ = false := blk_frozen HBg6.out 0; have hs1 : wx.cell? ⟨g6, 1, none⟩ = some (.int .i64 0) := (blk_cell HBg6.out 1).trans rfl; have hf1 : wx.frozen? ⟨g6, 1, none⟩ = false := blk_frozen HBg6.out 1; have hs2 : wx.cell? ⟨g6, 2, none⟩ = some (.int .i64 0) := (blk_cell HBg6.out 2).trans rfl; have hf2 : wx.frozen? ⟨g6, 2, none⟩ = false := blk_frozen HBg6.out 2; refine skipL_ (w1 := put3 wx g6 hd.2) rfl rfl (by go_simp; rfl) ?_; clear hs0 hs1 hs2 hf0 hf1 hf2; have HPg6 := Aside0.mk (put3_blk (k := hd.2) HBg6.out); have HQg6 := Aside0.mk (put3_below wx g6 hd.2); generalize put3 wx g6 hd.2 = wd at HPg6 HQg6 ⊢; have h_ab := HQg6.out.below HLg6.out (Nat.le_of_eq HNg6.out.symm); have HM3 : Aside0 (Mid B W wd g gq gc gl p hd.1 vh vo g5 g6 e hd.2) := ⟨HDh.out.below h_ab, below_then HWh.out (by have := HDh.out.ge; have := HDh.out.lt; omega) h_ab, (h_ab.block g5 (blk_lt HE5.out)).trans HE5.out, HPg6.out⟩; clear h_ab HDh HWh HE5 HQg6 HLg6 HNg6 HBg6 HPg6 HD HBg5 HLg5 HNg5 s50 s51 s52 s53 s54 s55; have s5 : wd.cell? ⟨g5, 0, none⟩ = some (.int .i64 (t : Int)) := by rw [← HET.out]; exact (blk_cell HM3.out.ev 0).trans rfl)))
 generalize wd = w4 at HM3 ⊢
 have HM4 := Aside0.mk (HM3.out.below (below_drew (Below.refl _ _)))
 obtain ⟨At, ct, et⟩ := Kd.R_slice (HM4.out.det.hth t HT.out)
 have HV := HM4.out.det.hth t HT.out
 rw [et] at HV
 have HVT := Aside0.mk HV
 have s0 : w4.drew.cell? ⟨g, 7 + t, none⟩ = some (.slice At (hd.1.th t).length ct) := by rw [← et]; exact HM4.out.det.th_cell t HT.out
 have HET4 := Aside0.mk et
 clear HV et
 refine start_ (n := 14) (S := fun w' => w'.cell? ⟨g, 7 + t, none⟩ = some (.slice At (hd.1.th t).length ct)) (ds := [13]) (bl 14 0) (by kernel_rfl) rfl rfl (s0) (fun hHeld => ?_)
 refine pure_ (i := 0) (N := some 16) (v := ?_) (a' := ?_) (bl 14 1) rfl rfl (by kernel_rfl) (fun _ _ _ h => h) (Or.inl ⟨by rfl, ?_⟩) ?_ ?_
 rotate_left
 · intro w'
   go_simp
   with_reducible rfl
 rotate_left
 · simp only [Act.put, List.setIfInBounds_toArray, List.set_cons_zero, List.set_cons_succ, i64_w, i32_w]
   rfl
 refine pure_ (i := 1) (N := some 17) (v := ?_) (a' := ?_) (bl 14 3) rfl rfl (by kernel_rfl) (fun _ _ _ h => h) (Or.inl ⟨by rfl, ?_⟩) ?_ ?_
 rotate_left
 · intro w'
   go_simp
   with_reducible rfl
 rotate_left
 · simp only [Act.put, List.setIfInBounds_toArray, List.set_cons_zero, List.set_cons_succ, i64_w, i32_w]
   rfl
 refine pure_ (i := 2) (N := some 18) (v := ?_) (a' := ?_) (bl 14 7) rfl rfl (by kernel_rfl) (fun _ _ _ h => h) (Or.inl ⟨by rfl, ?_⟩) ?_ ?_
 rotate_left
 · intro w'
   go_simp
   with_reducible rfl
 rotate_left
 · simp only [Act.put, List.setIfInBounds_toArray, List.set_cons_zero, List.set_cons_succ, i64_w, i32_w]
   rfl
 refine pure_ (i := 3) (N := some 19) (v := ?_) (a' := ?_) (bl 14 15) rfl rfl (by kernel_rfl) (fun _ _ _ h => h) (Or.inl ⟨by rfl, ?_⟩) ?_ ?_
 rotate_left
 · intro w'
   go_simp
   with_reducible rfl
 rotate_left
 · simp only [Act.put, List.setIfInBounds_toArray, List.set_cons_zero, List.set_cons_succ, i64_w, i32_w]
   rfl
 refine pure_ (i := 4) (N := some 20) (v := ?_) (a' := ?_) (bl 14 31) rfl rfl (by kernel_rfl) (fun _ _ _ h => h) (Or.inl ⟨by rfl, ?_⟩) ?_ ?_
 rotate_left
 · intro w'
   go_simp
   with_reducible rfl
 rotate_left
 · simp only [Act.put, List.setIfInBounds_toArray, List.set_cons_zero, List.set_cons_succ, i64_w, i32_w]
   rfl
 refine pure_ (i := 5) (N := some 21) (v := ?_) (a' := ?_) (bl 14 63) rfl rfl (by kernel_rfl) (fun _ _ _ h => h) (Or.inl ⟨by rfl, ?_⟩) ?_ ?_
 rotate_left
 · intro w'
   go_simp
   with_reducible rfl
 rotate_left
 · simp only [Act.put, List.setIfInBounds_toArray, List.set_cons_zero, List.set_cons_succ, i64_w, i32_w]
   rfl
 refine pure_ (i := 6) (N := some 22) (v := ?_) (a' := ?_) (bl 14 127) rfl rfl (by kernel_rfl) (fun _ _ _ h => h) (Or.inl ⟨by rfl, ?_⟩) ?_ ?_
 rotate_left
 · intro w'
   go_simp
   with_reducible rfl
 rotate_left
 · simp only [Act.put, List.setIfInBounds_toArray, List.set_cons_zero, List.set_cons_succ, i64_w, i32_w]
   rfl
 refine pure_ (i := 8) (N := some 24) (v := ?_) (a' := ?_) (bl 14 383) rfl rfl (by kernel_rfl) (fun _ _ _ h => h) (Or.inl ⟨by rfl, ?_⟩) ?_ ?_
 rotate_left
 · intro w'
   go_simp
   with_reducible rfl
 rotate_left
 · simp only [Act.put, List.setIfInBounds_toArray, List.set_cons_zero, List.set_cons_succ, i64_w, i32_w]
   rfl
 refine pure_ (i := 10) (N := some 26) (v := ?_) (a' := ?_) (bl 14 1407) rfl rfl (by kernel_rfl) (fun _ _ _ h => h) (Or.inl ⟨by rfl, ?_⟩) ?_ ?_
 rotate_left
 · intro w'
   go_simp
   with_reducible rfl
 rotate_left
 · simp only [Act.put, List.setIfInBounds_toArray, List.set_cons_zero, List.set_cons_succ, i64_w, i32_w]
   rfl
 refine pure_ (i := 11) (N := some 27) (v := ?_) (a' := ?_) (bl 14 3455) rfl rfl (by kernel_rfl) (fun _ _ _ h => h) (Or.inl ⟨by rfl, ?_⟩) ?_ ?_
 rotate_left
 · intro w'
   go_simp
   with_reducible rfl
 rotate_left
 · simp only [Act.put, List.setIfInBounds_toArray, List.set_cons_zero, List.set_cons_succ, i64_w, i32_w]
   rfl
 refine take_ (i := 7) (N := some 23) (v := ?_) (a' := ?_) (bl 14 3583) rfl rfl (by kernel_rfl) (fun _ _ _ h => h) (Or.inl ⟨by rfl, ?_⟩) hHeld ?_ ?_
 rotate_left
 · intro w' s0
   go_simp
   with_reducible rfl
 rotate_left
 · simp only [Act.put, List.setIfInBounds_toArray, List.set_cons_zero, List.set_cons_succ, i64_w, i32_w]
   rfl
 refine one_ (i := 9) (N := some 25) (bl 14 4095) rfl rfl (by kernel_rfl) (by decide) (fun K hK => ?_)
 refine goes_ Try.func39 (by kernel_rfl) rfl #[.slice At (hd.1.th t).length ct, .int .i64 (t : Int)] (by rfl) rfl rfl (by simp only [List.map_toArray, List.map_cons, List.map_nil]; rfl) ?_
 with_reducible refine (tick_any _ At ct (hd.1.th t) (t : Int) HVT.out (HO1.out.th t)).mono ?_
 rintro e3 w3 ⟨v0, rfl, hr3, hb3⟩
 obtain ⟨Ax, cx, e3v⟩ := Kd.R_slice hr3
 subst e3v
 refine ⟨_, rfl, ?_⟩
 have HB3 := Aside0.mk hb3
 have HE3 := Aside0.mk (HM4.out.below hb3)
 have HR3 := Aside0.mk (Kd.R_lower hr3 (show B ≤ _ from HM4.out.size))
 have c0 := HE3.out.det.th_cell t HT.out
 have f0 := HE3.out.det.frozen (7 + t)
 clear hr3
 refine hK.out _ _ ((pw_cell_below hb3 hHeld)) (fun hHeld => ?_)
 clear hK K
 refine norm_ (a' := ?_) ?_ ?_
 rotate_left
 · show Act.put _ (some 25) _ = _
   simp only [Act.put, List.setIfInBounds_toArray, List.set_cons_zero, List.set_cons_succ, i64_w, i32_w]
   rfl
 refine pure_ (i := 12) (N := some 28) (v := ?_) (a' := ?_) (bl 14 8191) rfl rfl (by kernel_rfl) (fun _ _ _ h => h) (Or.inl ⟨by rfl, ?_⟩) ?_ ?_
 rotate_left
 · intro w'
   go_simp
   with_reducible rfl
 rotate_left
 · simp only [Act.put, List.setIfInBounds_toArray, List.set_cons_zero, List.set_cons_succ, i64_w, i32_w]
   rfl
 refine last_ (i := 13) (N := none) (bl 14 16383) rfl rfl (by kernel_rfl) (by decide) (fun K hK => ?_)
 refine skip_ (w1 := w3.setCell ⟨g, 7 + t, none⟩ (.slice Ax (tickL (hd.1.th t) (t : Int)).length cx)) (by rfl) rfl ?_ ?_
 · go_simp
 refine hK.out _ _ ?_
 clear hK K
 refine done_ (by kernel_rfl) ?_
 have HM5 : Aside0 (Mid B W (w3.setCell ⟨g, 7 + t, none⟩ (.slice Ax (tickL (hd.1.th t) (t : Int)).length cx)) g gq gc gl p (hd.1.tick t) (up1 vh t (.slice Ax (tickL (hd.1.th t) (t : Int)).length cx)) vo g5 g6 e hd.2) := ⟨HE3.out.setTh t HT.out _ _ HR3.out⟩
 clear s0 c0 f0 HM3 HM4 HVT HET4 HE3 HR3 HB3 hHeld
 have HOt : Aside0 ((hd.1.tick t).Ok (n + 1)) := ⟨HO1.out.tick HT.out⟩
 obtain ⟨σ2, hσ2⟩ : ∃ x, hd.1.tick t = x := ⟨_, rfl⟩
 obtain ⟨v2, hv2⟩ : ∃ x, up1 vh t (.slice Ax (tickL (hd.1.th t) (t : Int)).length cx) = x := ⟨_, rfl⟩
 have HS2 := Aside0.mk hσ2
 have HO2o : Aside0 (σ2.out.length ≤ 6 * n) := ⟨by rw [← hσ2]; exact HO1o.out⟩
 rw [hσ2, hv2] at HM5
 rw [hσ2] at HOt
 clear hσ2 hv2
 generalize w3.setCell ⟨g, 7 + t, none⟩ (.slice Ax (tickL (hd.1.th t) (t : Int)).length cx) = w5 at HM5 ⊢
 have u2 : w5.cell? ⟨g5, 2, none⟩ = some (.int .u8 e.f2) := (blk_cell HM5.out.ev 2).trans rfl
 cases htb : touchB e with
 | false =>
  have h78 := htb
  unfold touchB at h78
  rw [Bool.or_eq_false_iff] at h78
  obtain ⟨h7, h8⟩ := h78
  have HRS : Aside0 (σ2.say e hd.2 = r) := ⟨by
   have h9 := HR.out
   simp only [Det.event, HHD.out, HET.out, Int.toNat_natCast, HS2.out, htb, reduceIte, Bool.false_eq_true] at h9
   exact h9⟩
  have s50 : w5.cell? ⟨g5, 0, none⟩ = some (.int .i64 (t : Int)) := (blk_cell HM5.out.ev 0).trans (by first | rfl | simp [HET.out])
  have s51 : w5.cell? ⟨g5, 1, none⟩ = some (.int .i64 e.f1) := (blk_cell HM5.out.ev 1).trans (by first | rfl | simp [HET.out])
  have s52 : w5.cell? ⟨g5, 2, none⟩ = some (.int .u8 e.f2) := (blk_cell HM5.out.ev 2).trans (by first | rfl | simp [HET.out])
  have s53 : w5.cell? ⟨g5, 3, none⟩ = some (.int .i64 e.f3) := (blk_cell HM5.out.ev 3).trans (by first | rfl | simp [HET.out])
  have s54 : w5.cell? ⟨g5, 4, none⟩ = some (.int .i64 e.f4) := (blk_cell HM5.out.ev 4).trans (by first | rfl | simp [HET.out])
  have s55 : w5.cell? ⟨g5, 5, none⟩ = some (.int .i64 e.f5) := (blk_cell HM5.out.ev 5).trans (by first | rfl | simp [HET.out])
  have k50 : w5.cell? ⟨g6, 0, none⟩ = some (.int .u8 hd.2.1) := (blk_cell HM5.out.key 0).trans rfl
  have k51 : w5.cell? ⟨g6, 1, none⟩ = some (.int .i64 hd.2.2.1) := (blk_cell HM5.out.key 1).trans rfl
  have k52 : w5.cell? ⟨g6, 2, none⟩ = some (.int .i64 hd.2.2.2) := (blk_cell HM5.out.key 2).trans rfl
  go_wp2_with (first | ((with_reducible refine gate_callee (f := 42) rfl ?_); (try (refine gate_guard (by rfl) ?_; dsimp only)); (refine goesL_ (some 104) rfl rfl Try.func42 (by kernel_rfl) rfl #[.pointer (some ⟨g, 0, none⟩), .agg #[.int .i64 (t : Int), .int .i64 e.f1, .int .u8 e.f2, .int .i64 e.f3, .int .i64 e.f4, .int .i64 e.f5], .agg #[.int .u8 hd.2.1, .int .i64 hd.2.2.1, .int .i64 hd.2.2.2]] rfl (by simp [Act.eval]) ?_; refine (say_any HM5.out.det HOt.out e t HET.out HT.out hd.2 r HRS.out).mono ?_; rintro es ws ⟨vs, rfl, hf, hdd⟩; have HFI : Aside0 (Below B W ws ∧ DetAt B ws g gq gc gl p r vs vo) := ⟨hf.below HM5.out.bel HM5.out.size HGE.out, hdd⟩; clear hf hdd; refine ⟨_, rfl, ?_⟩)))
  go_end0
  exact ⟨_, _, rfl, HFI.out.1, HFI.out.2⟩
 | true =>
  have h78 := htb
  unfold touchB at h78
  have HRS : Aside0 (((σ2.looks e i 6).mark e i).say e hd.2 = r) := ⟨by
   have h9 := HR.out
   simp only [Det.event, HHD.out, HET.out, Int.toNat_natCast, HS2.out, htb, reduceIte] at h9
   exact h9⟩
  have HLK := Aside0.mk (fun m => Det.looks_out σ2 e i m)
  rcases touch_or h78 (fun hh => by rw [beq_iff_eq] at hh; rw [hh]; rfl) with ⟨h7, h8⟩ | ⟨h7, h8⟩
  all_goals
   obtain ⟨b8, hb8⟩ : ∃ b, (e.f2 == 8) = b := ⟨_, rfl⟩
   have HB8 := Aside0.mk hb8
   have HTB : Aside0 ((e.f2 == 7) = true ∨ (e.f2 == 8) = true) := ⟨by rw [h7, h8]; simp⟩
   clear hb8 h78 htb
   go_wp2
   clear u2 h7 h8
   go_loopg [37] 7 (fun kq v37 w' => ∃ u : Nat, v37 = .int .i64 (u : Int) ∧ Aside0 (kq + u = 7) ∧ Aside0 (u ≤ 6) ∧ Aside0 (∃ vo', Mid B W w' g gq gc gl p (σ2.looks e i u) v2 vo' g5 g6 e hd.2))
   case atStart => exact ⟨0, rfl, ⟨by omega⟩, ⟨by omega⟩, ⟨⟨_, HM5.out⟩⟩⟩
   case round =>
    obtain ⟨wi, rfl⟩ : ∃ wi : World, wi = wr := ⟨_, rfl⟩
    obtain ⟨u, rfl, HK, HU, ⟨vo', hM⟩⟩ := hrel
    have HM := Aside0.mk hM
    clear hM HM5
    cases gk with
    | zero => exact absurd HK.out (by have := HU.out; omega)
    | succ k1 =>
     by_cases hu : u < 6
     · have c0 : decide ((u : Int) < 6) = true := decide_eq_true (by omega)
       have c1 : decide (u < 6) = true := decide_eq_true hu
       have b1 : (u : Int) < 6 := by omega
       have b0 : (0 : Int) ≤ (u : Int) := by omega
       have HIN := Aside0.mk hu
       obtain ⟨d, hdd⟩ : ∃ d, σ2.looks e i u = d := ⟨_, rfl⟩
       have hdo : d.out.length ≤ 6 * n + 6 := by rw [← hdd]; have := (HLK.out u).1; have := HO2o.out; omega
       have hdt : d.th t = σ2.th t := by rw [← hdd, (HLK.out u).2.1]
       rw [hdd] at HM
       obtain ⟨q, hq⟩ : ∃ q, d.latest u e = q := ⟨_, rfl⟩
       have HDD := Aside0.mk hdd
       have HQ := Aside0.mk hq
       have HDO := Aside0.mk hdo
       have HDT := Aside0.mk hdt
       clear hu hdd hq hdo hdt
       have s50 : wi.cell? ⟨g5, 0, none⟩ = some (.int .i64 e.f0) := (blk_cell HM.out.ev 0).trans rfl
       have s51 : wi.cell? ⟨g5, 1, none⟩ = some (.int .i64 e.f1) := (blk_cell HM.out.ev 1).trans rfl
       have s52 : wi.cell? ⟨g5, 2, none⟩ = some (.int .u8 e.f2) := (blk_cell HM.out.ev 2).trans rfl
       have s53 : wi.cell? ⟨g5, 3, none⟩ = some (.int .i64 e.f3) := (blk_cell HM.out.ev 3).trans rfl
       have s54 : wi.cell? ⟨g5, 4, none⟩ = some (.int .i64 e.f4) := (blk_cell HM.out.ev 4).trans rfl
       have s55 : wi.cell? ⟨g5, 5, none⟩ = some (.int .i64 e.f5) := (blk_cell HM.out.ev 5).trans rfl
       go_wp2_with (first | ((with_reducible refine gate_callee (f := 40) rfl ?_); (try (refine gate_guard (by rfl) ?_; dsimp only)); (refine goesL_ (some 44) rfl rfl Try.func40 (by kernel_rfl) rfl #[.pointer (some ⟨g, 0, none⟩), .int .i64 (u : Int), .agg #[.int .i64 e.f0, .int .i64 e.f1, .int .u8 e.f2, .int .i64 e.f3, .int .i64 e.f4, .int .i64 e.f5]] rfl (by simp [Act.eval]) ?_; refine (latest_any HM.out.det e u q HQ.out).mono ?_; rintro el wl ⟨rfl, hbl⟩; have HML := Aside0.mk (HM.out.below hbl); clear hbl; refine ⟨_, rfl, ?_⟩)) | ((with_reducible refine gate_dst (N := 9) rfl ?_); refine box_event ?hg (N := 9) ?hd (cs := #[.int .i64 0, .int .i64 0]) (t := 93) ?hr ?_; (case hd => rfl); (case hg => rfl); (case hr => first | (go_simp; done) | (go_simp; rfl)); intro g9 hg9_ wy hbg9_ hlg9_; have HNg9 := Aside0.mk hg9_; have HBg9 := Aside0.mk hbg9_; have HLg9 := Aside0.mk hlg9_; clear hg9_ hbg9_ hlg9_) | ((with_reducible refine gate_store (t := 93) (p := 9) rfl ?_); (have hs0 : wy.cell? ⟨g9, 0, none⟩ = some (.int .i64 0) := (blk_cell HBg9.out 0).trans rfl; have hf0 : wy.frozen? ⟨g9, 0, none⟩ = false := blk_frozen HBg9.out 0; have hs1 : wy.cell? ⟨g9, 1, none⟩ = some (.int .i64 0) := (blk_cell HBg9.out 1).trans rfl; have hf1 : wy.frozen? ⟨g9, 1, none⟩ = false := blk_frozen HBg9.out 1; refine skipL_ (w1 := put2a wy g9 q.1.1 q.1.2) rfl rfl (by go_simp; rfl) ?_; clear hs0 hs1 hf0 hf1; have HPg9 := Aside0.mk (put2a_blk (x := q.1.1) (y := q.1.2) HBg9.out); have HQg9 := Aside0.mk (put2a_only wy g9 q.1.1 q.1.2); generalize put2a wy g9 q.1.1 q.1.2 = w9x at HPg9 HQg9 ⊢; have h_ab := HQg9.out.below HLg9.out (Nat.le_of_eq HNg9.out.symm); have HM9 := Aside0.mk (HML.out.below h_ab); have HA9 := HPg9; clear h_ab HML HQg9 HLg9 HNg9 HBg9 HPg9 s50 s51 s52 s53 s54 s55)))
       generalize w9x = w9 at HM9 HA9 ⊢
       have HM10 := Aside0.mk (HM9.out.below (below_drew (Below.refl _ _)))
       have HA10 : Aside0 (AccAt w9.drew g9 q.1.1 q.1.2) := ⟨HA9.out⟩
       obtain ⟨qa, qi⟩ := q
       obtain ⟨q1, q2⟩ := qa
       dsimp only at *
       clear HM HM9 HA9
       cases qi with
       | false =>
        refine start_ (n := 19) (S := fun w' => True) (ds := []) (bl 19 0) (by kernel_rfl) rfl rfl trivial (fun hHeld => ?_)
        refine pure_ (i := 0) (N := some 47) (v := ?_) (a' := ?_) (bl 19 1) rfl rfl (by kernel_rfl) (fun _ _ _ h => h) (Or.inl ⟨by rfl, ?_⟩) ?_ ?_
        rotate_left
        · intro w'
          go_simp
          with_reducible rfl
        rotate_left
        · simp only [Act.put, List.setIfInBounds_toArray, List.set_cons_zero, List.set_cons_succ, i64_w, i32_w]
          rfl
        refine pure_ (i := 1) (N := some 48) (v := ?_) (a' := ?_) (bl 19 3) rfl rfl (by kernel_rfl) (fun _ _ _ h => h) (Or.inl ⟨by rfl, ?_⟩) ?_ ?_
        rotate_left
        · intro w'
          go_simp
          with_reducible rfl
        rotate_left
        · simp only [Act.put, List.setIfInBounds_toArray, List.set_cons_zero, List.set_cons_succ, i64_w, i32_w]
          rfl
        refine pure_ (i := 2) (N := some 49) (v := undef) (a' := ?_) (bl 19 7) rfl rfl (by kernel_rfl) (fun _ _ _ h => h) (Or.inr ⟨by rfl, rfl⟩) ?_ ?_
        rotate_left
        · simp only [Act.put, List.setIfInBounds_toArray, List.set_cons_zero, List.set_cons_succ, i64_w, i32_w]
          rfl
        refine pure_ (i := 3) (N := some 50) (v := undef) (a' := ?_) (bl 19 15) rfl rfl (by kernel_rfl) (fun _ _ _ h => h) (Or.inr ⟨by rfl, rfl⟩) ?_ ?_
        rotate_left
        · simp only [Act.put, List.setIfInBounds_toArray, List.set_cons_zero, List.set_cons_succ, i64_w, i32_w]
          rfl
        refine pure_ (i := 4) (N := some 51) (v := undef) (a' := ?_) (bl 19 31) rfl rfl (by kernel_rfl) (fun _ _ _ h => h) (Or.inr ⟨by rfl, rfl⟩) ?_ ?_
        rotate_left
        · simp only [Act.put, List.setIfInBounds_toArray, List.set_cons_zero, List.set_cons_succ, i64_w, i32_w]
          rfl
        refine pure_ (i := 5) (N := some 52) (v := ?_) (a' := ?_) (bl 19 63) rfl rfl (by kernel_rfl) (fun _ _ _ h => h) (Or.inl ⟨by rfl, ?_⟩) ?_ ?_
        rotate_left
        · intro w'
          go_simp
          with_reducible rfl
        rotate_left
        · simp only [Act.put, List.setIfInBounds_toArray, List.set_cons_zero, List.set_cons_succ, i64_w, i32_w]
          rfl
        refine pure_ (i := 6) (N := some 53) (v := ?_) (a' := ?_) (bl 19 127) rfl rfl (by kernel_rfl) (fun _ _ _ h => h) (Or.inl ⟨by rfl, ?_⟩) ?_ ?_
        rotate_left
        · intro w'
          go_simp
          with_reducible rfl
        rotate_left
        · simp only [Act.put, List.setIfInBounds_toArray, List.set_cons_zero, List.set_cons_succ, i64_w, i32_w]
          rfl
        refine pure_ (i := 7) (N := some 54) (v := undef) (a' := ?_) (bl 19 255) rfl rfl (by kernel_rfl) (fun _ _ _ h => h) (Or.inr ⟨by rfl, rfl⟩) ?_ ?_
        rotate_left
        · simp only [Act.put, List.setIfInBounds_toArray, List.set_cons_zero, List.set_cons_succ, i64_w, i32_w]
          rfl
        refine pure_ (i := 8) (N := some 55) (v := undef) (a' := ?_) (bl 19 511) rfl rfl (by kernel_rfl) (fun _ _ _ h => h) (Or.inr ⟨by rfl, rfl⟩) ?_ ?_
        rotate_left
        · simp only [Act.put, List.setIfInBounds_toArray, List.set_cons_zero, List.set_cons_succ, i64_w, i32_w]
          rfl
        refine pure_ (i := 9) (N := some 56) (v := undef) (a' := ?_) (bl 19 1023) rfl rfl (by kernel_rfl) (fun _ _ _ h => h) (Or.inr ⟨by rfl, rfl⟩) ?_ ?_
        rotate_left
        · simp only [Act.put, List.setIfInBounds_toArray, List.set_cons_zero, List.set_cons_succ, i64_w, i32_w]
          rfl
        refine pure_ (i := 10) (N := some 57) (v := undef) (a' := ?_) (bl 19 2047) rfl rfl (by kernel_rfl) (fun _ _ _ h => h) (Or.inr ⟨by rfl, rfl⟩) ?_ ?_
        rotate_left
        · simp only [Act.put, List.setIfInBounds_toArray, List.set_cons_zero, List.set_cons_succ, i64_w, i32_w]
          rfl
        refine pure_ (i := 11) (N := some 58) (v := undef) (a' := ?_) (bl 19 4095) rfl rfl (by kernel_rfl) (fun _ _ _ h => h) (Or.inr ⟨by rfl, rfl⟩) ?_ ?_
        rotate_left
        · simp only [Act.put, List.setIfInBounds_toArray, List.set_cons_zero, List.set_cons_succ, i64_w, i32_w]
          rfl
        refine pure_ (i := 12) (N := some 59) (v := undef) (a' := ?_) (bl 19 8191) rfl rfl (by kernel_rfl) (fun _ _ _ h => h) (Or.inr ⟨by rfl, rfl⟩) ?_ ?_
        rotate_left
        · simp only [Act.put, List.setIfInBounds_toArray, List.set_cons_zero, List.set_cons_succ, i64_w, i32_w]
          rfl
        refine pure_ (i := 13) (N := some 60) (v := undef) (a' := ?_) (bl 19 16383) rfl rfl (by kernel_rfl) (fun _ _ _ h => h) (Or.inr ⟨by rfl, rfl⟩) ?_ ?_
        rotate_left
        · simp only [Act.put, List.setIfInBounds_toArray, List.set_cons_zero, List.set_cons_succ, i64_w, i32_w]
          rfl
        refine pure_ (i := 14) (N := some 61) (v := undef) (a' := ?_) (bl 19 32767) rfl rfl (by kernel_rfl) (fun _ _ _ h => h) (Or.inr ⟨by rfl, rfl⟩) ?_ ?_
        rotate_left
        · simp only [Act.put, List.setIfInBounds_toArray, List.set_cons_zero, List.set_cons_succ, i64_w, i32_w]
          rfl
        refine pure_ (i := 15) (N := some 62) (v := undef) (a' := ?_) (bl 19 65535) rfl rfl (by kernel_rfl) (fun _ _ _ h => h) (Or.inr ⟨by rfl, rfl⟩) ?_ ?_
        rotate_left
        · simp only [Act.put, List.setIfInBounds_toArray, List.set_cons_zero, List.set_cons_succ, i64_w, i32_w]
          rfl
        refine pure_ (i := 16) (N := some 63) (v := undef) (a' := ?_) (bl 19 131071) rfl rfl (by kernel_rfl) (fun _ _ _ h => h) (Or.inr ⟨by rfl, rfl⟩) ?_ ?_
        rotate_left
        · simp only [Act.put, List.setIfInBounds_toArray, List.set_cons_zero, List.set_cons_succ, i64_w, i32_w]
          rfl
        refine pure_ (i := 17) (N := some 64) (v := undef) (a' := ?_) (bl 19 262143) rfl rfl (by kernel_rfl) (fun _ _ _ h => h) (Or.inr ⟨by rfl, rfl⟩) ?_ ?_
        rotate_left
        · simp only [Act.put, List.setIfInBounds_toArray, List.set_cons_zero, List.set_cons_succ, i64_w, i32_w]
          rfl
        refine pure_ (i := 18) (N := some 65) (v := ?_) (a' := ?_) (bl 19 524287) rfl rfl (by kernel_rfl) (fun _ _ _ h => h) (Or.inl ⟨by rfl, ?_⟩) ?_ ?_
        rotate_left
        · intro w'
          go_simp
          with_reducible rfl
        rotate_left
        · simp only [Act.put, List.setIfInBounds_toArray, List.set_cons_zero, List.set_cons_succ, i64_w, i32_w]
          rfl
        refine done_ (by kernel_rfl) ?_
        have HMR : Aside0 (Mid B W w9.drew g gq gc gl p (σ2.looks e i (u + 1)) v2 vo' g5 g6 e hd.2) := ⟨by
         have e1 : σ2.looks e i (u + 1) = d := by show (σ2.looks e i u).look e i u = d; rw [HDD.out]; exact look_no HQ.out HET.out (.inl rfl)
         rw [e1]; exact HM10.out⟩
        go_wp2
        go_roundg k1
        case measure => omega
        case rel => exact ⟨u + 1, by go_num, ⟨by have := HK.out; omega⟩, ⟨by have := HIN.out; omega⟩, ⟨⟨_, HMR.out⟩⟩⟩
       | true =>
        by_cases hut : u = t
        · have HUT := Aside0.mk hut
          have n1 : ((u : Int) == (t : Int)) = true := by rw [hut]; exact beq_self_eq_true _
          have n2 : ((u : Int) != (t : Int)) = false := by rw [hut]; simp
          clear hut
          refine start_ (n := 19) (S := fun w' => True) (ds := []) (bl 19 0) (by kernel_rfl) rfl rfl trivial (fun hHeld => ?_)
          refine pure_ (i := 0) (N := some 47) (v := ?_) (a' := ?_) (bl 19 1) rfl rfl (by kernel_rfl) (fun _ _ _ h => h) (Or.inl ⟨by rfl, ?_⟩) ?_ ?_
          rotate_left
          · intro w'
            go_simp
            with_reducible rfl
          rotate_left
          · simp only [Act.put, List.setIfInBounds_toArray, List.set_cons_zero, List.set_cons_succ, i64_w, i32_w]
            rfl
          refine pure_ (i := 1) (N := some 48) (v := ?_) (a' := ?_) (bl 19 3) rfl rfl (by kernel_rfl) (fun _ _ _ h => h) (Or.inl ⟨by rfl, ?_⟩) ?_ ?_
          rotate_left
          · intro w'
            go_simp
            with_reducible rfl
          rotate_left
          · simp only [Act.put, List.setIfInBounds_toArray, List.set_cons_zero, List.set_cons_succ, i64_w, i32_w]
            rfl
          refine pure_ (i := 2) (N := some 49) (v := ?_) (a' := ?_) (bl 19 7) rfl rfl (by kernel_rfl) (fun _ _ _ h => h) (Or.inl ⟨by rfl, ?_⟩) ?_ ?_
          rotate_left
          · intro w'
            go_simp
            with_reducible rfl
          rotate_left
          · simp only [Act.put, List.setIfInBounds_toArray, List.set_cons_zero, List.set_cons_succ, i64_w, i32_w]
            rfl
          refine pure_ (i := 3) (N := some 50) (v := ?_) (a' := ?_) (bl 19 15) rfl rfl (by kernel_rfl) (fun _ _ _ h => h) (Or.inl ⟨by rfl, ?_⟩) ?_ ?_
          rotate_left
          · intro w'
            go_simp
            with_reducible rfl
          rotate_left
          · simp only [Act.put, List.setIfInBounds_toArray, List.set_cons_zero, List.set_cons_succ, i64_w, i32_w]
            rfl
          refine pure_ (i := 4) (N := some 51) (v := ?_) (a' := ?_) (bl 19 31) rfl rfl (by kernel_rfl) (fun _ _ _ h => h) (Or.inl ⟨by rfl, ?_⟩) ?_ ?_
          rotate_left
          · intro w'
            go_simp
            with_reducible rfl
          rotate_left
          · simp only [Act.put, List.setIfInBounds_toArray, List.set_cons_zero, List.set_cons_succ, i64_w, i32_w]
            rfl
          refine pure_ (i := 5) (N := some 52) (v := ?_) (a' := ?_) (bl 19 63) rfl rfl (by kernel_rfl) (fun _ _ _ h => h) (Or.inl ⟨by rfl, ?_⟩) ?_ ?_
          rotate_left
          · intro w'
            go_simp
            with_reducible rfl
          rotate_left
          · simp only [Act.put, List.setIfInBounds_toArray, List.set_cons_zero, List.set_cons_succ, i64_w, i32_w]
            rfl
          refine pure_ (i := 6) (N := some 53) (v := ?_) (a' := ?_) (bl 19 127) rfl rfl (by kernel_rfl) (fun _ _ _ h => h) (Or.inl ⟨by rfl, ?_⟩) ?_ ?_
          rotate_left
          · intro w'
            go_simp
            with_reducible rfl
          rotate_left
          · simp only [Act.put, List.setIfInBounds_toArray, List.set_cons_zero, List.set_cons_succ, i64_w, i32_w]
            rfl
          refine pure_ (i := 7) (N := some 54) (v := undef) (a' := ?_) (bl 19 255) rfl rfl (by kernel_rfl) (fun _ _ _ h => h) (Or.inr ⟨by rfl, rfl⟩) ?_ ?_
          rotate_left
          · simp only [Act.put, List.setIfInBounds_toArray, List.set_cons_zero, List.set_cons_succ, i64_w, i32_w]
            rfl
          refine pure_ (i := 8) (N := some 55) (v := undef) (a' := ?_) (bl 19 511) rfl rfl (by kernel_rfl) (fun _ _ _ h => h) (Or.inr ⟨by rfl, rfl⟩) ?_ ?_
          rotate_left
          · simp only [Act.put, List.setIfInBounds_toArray, List.set_cons_zero, List.set_cons_succ, i64_w, i32_w]
            rfl
          refine pure_ (i := 9) (N := some 56) (v := undef) (a' := ?_) (bl 19 1023) rfl rfl (by kernel_rfl) (fun _ _ _ h => h) (Or.inr ⟨by rfl, rfl⟩) ?_ ?_
          rotate_left
          · simp only [Act.put, List.setIfInBounds_toArray, List.set_cons_zero, List.set_cons_succ, i64_w, i32_w]
            rfl
          refine pure_ (i := 10) (N := some 57) (v := undef) (a' := ?_) (bl 19 2047) rfl rfl (by kernel_rfl) (fun _ _ _ h => h) (Or.inr ⟨by rfl, rfl⟩) ?_ ?_
          rotate_left
          · simp only [Act.put, List.setIfInBounds_toArray, List.set_cons_zero, List.set_cons_succ, i64_w, i32_w]
            rfl
          refine pure_ (i := 11) (N := some 58) (v := undef) (a' := ?_) (bl 19 4095) rfl rfl (by kernel_rfl) (fun _ _ _ h => h) (Or.inr ⟨by rfl, rfl⟩) ?_ ?_
          rotate_left
          · simp only [Act.put, List.setIfInBounds_toArray, List.set_cons_zero, List.set_cons_succ, i64_w, i32_w]
            rfl
          refine pure_ (i := 12) (N := some 59) (v := undef) (a' := ?_) (bl 19 8191) rfl rfl (by kernel_rfl) (fun _ _ _ h => h) (Or.inr ⟨by rfl, rfl⟩) ?_ ?_
          rotate_left
          · simp only [Act.put, List.setIfInBounds_toArray, List.set_cons_zero, List.set_cons_succ, i64_w, i32_w]
            rfl
          refine pure_ (i := 13) (N := some 60) (v := undef) (a' := ?_) (bl 19 16383) rfl rfl (by kernel_rfl) (fun _ _ _ h => h) (Or.inr ⟨by rfl, rfl⟩) ?_ ?_
          rotate_left
          · simp only [Act.put, List.setIfInBounds_toArray, List.set_cons_zero, List.set_cons_succ, i64_w, i32_w]
            rfl
          refine pure_ (i := 14) (N := some 61) (v := undef) (a' := ?_) (bl 19 32767) rfl rfl (by kernel_rfl) (fun _ _ _ h => h) (Or.inr ⟨by rfl, rfl⟩) ?_ ?_
          rotate_left
          · simp only [Act.put, List.setIfInBounds_toArray, List.set_cons_zero, List.set_cons_succ, i64_w, i32_w]
            rfl
          refine pure_ (i := 15) (N := some 62) (v := undef) (a' := ?_) (bl 19 65535) rfl rfl (by kernel_rfl) (fun _ _ _ h => h) (Or.inr ⟨by rfl, rfl⟩) ?_ ?_
          rotate_left
          · simp only [Act.put, List.setIfInBounds_toArray, List.set_cons_zero, List.set_cons_succ, i64_w, i32_w]
            rfl
          refine pure_ (i := 16) (N := some 63) (v := undef) (a' := ?_) (bl 19 131071) rfl rfl (by kernel_rfl) (fun _ _ _ h => h) (Or.inr ⟨by rfl, rfl⟩) ?_ ?_
          rotate_left
          · simp only [Act.put, List.setIfInBounds_toArray, List.set_cons_zero, List.set_cons_succ, i64_w, i32_w]
            rfl
          refine pure_ (i := 17) (N := some 64) (v := undef) (a' := ?_) (bl 19 262143) rfl rfl (by kernel_rfl) (fun _ _ _ h => h) (Or.inr ⟨by rfl, rfl⟩) ?_ ?_
          rotate_left
          · simp only [Act.put, List.setIfInBounds_toArray, List.set_cons_zero, List.set_cons_succ, i64_w, i32_w]
            rfl
          refine pure_ (i := 18) (N := some 65) (v := ?_) (a' := ?_) (bl 19 524287) rfl rfl (by kernel_rfl) (fun _ _ _ h => h) (Or.inl ⟨by rfl, ?_⟩) ?_ ?_
          rotate_left
          · intro w'
            go_simp
            with_reducible rfl
          rotate_left
          · simp only [Act.put, List.setIfInBounds_toArray, List.set_cons_zero, List.set_cons_succ, i64_w, i32_w]
            rfl
          refine done_ (by kernel_rfl) ?_
          have HMR : Aside0 (Mid B W w9.drew g gq gc gl p (σ2.looks e i (u + 1)) v2 vo' g5 g6 e hd.2) := ⟨by
           have e1 : σ2.looks e i (u + 1) = d := by show (σ2.looks e i u).look e i u = d; rw [HDD.out]; exact look_no HQ.out HET.out (.inr (.inl HUT.out))
           rw [e1]; exact HM10.out⟩
          clear n1 n2
          go_wp2
          go_roundg k1
          case measure => omega
          case rel => exact ⟨u + 1, by go_num, ⟨by have := HK.out; omega⟩, ⟨by have := HIN.out; omega⟩, ⟨⟨_, HMR.out⟩⟩⟩
        · have HUT := Aside0.mk hut
          have n1 : ((u : Int) == (t : Int)) = false := by rw [beq_eq_false_iff_ne]; omega
          have n2 : ((u : Int) != (t : Int)) = true := by rw [bne_iff_ne]; omega
          clear hut
          obtain ⟨At, ct, et⟩ := Kd.R_slice (HM10.out.det.hth t HT.out)
          have HV := HM10.out.det.hth t HT.out
          rw [et] at HV
          have HVT := Aside0.mk HV
          have s0 : w9.drew.cell? ⟨g, 7 + t, none⟩ = some (.slice At (d.th t).length ct) := by rw [← et]; exact HM10.out.det.th_cell t HT.out
          have s1 : w9.drew.cell? ⟨g9, 1, none⟩ = some (.int .i64 q2) := (blk_cell HA10.out 1).trans rfl
          clear HV et
          refine start_ (n := 19) (S := fun w' => w'.cell? ⟨g, 7 + t, none⟩ = some (.slice At (d.th t).length ct) ∧ w'.cell? ⟨g9, 1, none⟩ = some (.int .i64 q2)) (ds := []) (bl 19 0) (by kernel_rfl) rfl rfl ⟨s0, s1⟩ (fun hHeld => ?_)
          refine pure_ (i := 0) (N := some 47) (v := ?_) (a' := ?_) (bl 19 1) rfl rfl (by kernel_rfl) (fun _ _ _ h => h) (Or.inl ⟨by rfl, ?_⟩) ?_ ?_
          rotate_left
          · intro w'
            go_simp
            with_reducible rfl
          rotate_left
          · simp only [Act.put, List.setIfInBounds_toArray, List.set_cons_zero, List.set_cons_succ, i64_w, i32_w]
            rfl
          refine pure_ (i := 1) (N := some 48) (v := ?_) (a' := ?_) (bl 19 3) rfl rfl (by kernel_rfl) (fun _ _ _ h => h) (Or.inl ⟨by rfl, ?_⟩) ?_ ?_
          rotate_left
          · intro w'
            go_simp
            with_reducible rfl
          rotate_left
          · simp only [Act.put, List.setIfInBounds_toArray, List.set_cons_zero, List.set_cons_succ, i64_w, i32_w]
            rfl
          refine pure_ (i := 2) (N := some 49) (v := ?_) (a' := ?_) (bl 19 7) rfl rfl (by kernel_rfl) (fun _ _ _ h => h) (Or.inl ⟨by rfl, ?_⟩) ?_ ?_
          rotate_left
          · intro w'
            go_simp
            with_reducible rfl
          rotate_left
          · simp only [Act.put, List.setIfInBounds_toArray, List.set_cons_zero, List.set_cons_succ, i64_w, i32_w]
            rfl
          refine pure_ (i := 3) (N := some 50) (v := ?_) (a' := ?_) (bl 19 15) rfl rfl (by kernel_rfl) (fun _ _ _ h => h) (Or.inl ⟨by rfl, ?_⟩) ?_ ?_
          rotate_left
          · intro w'
            go_simp
            with_reducible rfl
          rotate_left
          · simp only [Act.put, List.setIfInBounds_toArray, List.set_cons_zero, List.set_cons_succ, i64_w, i32_w]
            rfl
          refine pure_ (i := 4) (N := some 51) (v := ?_) (a' := ?_) (bl 19 31) rfl rfl (by kernel_rfl) (fun _ _ _ h => h) (Or.inl ⟨by rfl, ?_⟩) ?_ ?_
          rotate_left
          · intro w'
            go_simp
            with_reducible rfl
          rotate_left
          · simp only [Act.put, List.setIfInBounds_toArray, List.set_cons_zero, List.set_cons_succ, i64_w, i32_w]
            rfl
          refine pure_ (i := 5) (N := some 52) (v := ?_) (a' := ?_) (bl 19 63) rfl rfl (by kernel_rfl) (fun _ _ _ h => h) (Or.inl ⟨by rfl, ?_⟩) ?_ ?_
          rotate_left
          · intro w'
            go_simp
            with_reducible rfl
          rotate_left
          · simp only [Act.put, List.setIfInBounds_toArray, List.set_cons_zero, List.set_cons_succ, i64_w, i32_w]
            rfl
          refine pure_ (i := 6) (N := some 53) (v := ?_) (a' := ?_) (bl 19 127) rfl rfl (by kernel_rfl) (fun _ _ _ h => h) (Or.inl ⟨by rfl, ?_⟩) ?_ ?_
          rotate_left
          · intro w'
            go_simp
            with_reducible rfl
          rotate_left
          · simp only [Act.put, List.setIfInBounds_toArray, List.set_cons_zero, List.set_cons_succ, i64_w, i32_w]
            rfl
          refine pure_ (i := 7) (N := some 54) (v := ?_) (a' := ?_) (bl 19 255) rfl rfl (by kernel_rfl) (fun _ _ _ h => h) (Or.inl ⟨by rfl, ?_⟩) ?_ ?_
          rotate_left
          · intro w'
            go_simp
            with_reducible rfl
          rotate_left
          · simp only [Act.put, List.setIfInBounds_toArray, List.set_cons_zero, List.set_cons_succ, i64_w, i32_w]
            rfl
          refine pure_ (i := 9) (N := some 56) (v := ?_) (a' := ?_) (bl 19 767) rfl rfl (by kernel_rfl) (fun _ _ _ h => h) (Or.inl ⟨by rfl, ?_⟩) ?_ ?_
          rotate_left
          · intro w'
            go_simp
            with_reducible rfl
          rotate_left
          · simp only [Act.put, List.setIfInBounds_toArray, List.set_cons_zero, List.set_cons_succ, i64_w, i32_w]
            rfl
          refine pure_ (i := 10) (N := some 57) (v := ?_) (a' := ?_) (bl 19 1791) rfl rfl (by kernel_rfl) (fun _ _ _ h => h) (Or.inl ⟨by rfl, ?_⟩) ?_ ?_
          rotate_left
          · intro w'
            go_simp
            with_reducible rfl
          rotate_left
          · simp only [Act.put, List.setIfInBounds_toArray, List.set_cons_zero, List.set_cons_succ, i64_w, i32_w]
            rfl
          refine pure_ (i := 11) (N := some 58) (v := ?_) (a' := ?_) (bl 19 3839) rfl rfl (by kernel_rfl) (fun _ _ _ h => h) (Or.inl ⟨by rfl, ?_⟩) ?_ ?_
          rotate_left
          · intro w'
            go_simp
            with_reducible rfl
          rotate_left
          · simp only [Act.put, List.setIfInBounds_toArray, List.set_cons_zero, List.set_cons_succ, i64_w, i32_w]
            rfl
          refine pure_ (i := 12) (N := some 59) (v := ?_) (a' := ?_) (bl 19 7935) rfl rfl (by kernel_rfl) (fun _ _ _ h => h) (Or.inl ⟨by rfl, ?_⟩) ?_ ?_
          rotate_left
          · intro w'
            go_simp
            with_reducible rfl
          rotate_left
          · simp only [Act.put, List.setIfInBounds_toArray, List.set_cons_zero, List.set_cons_succ, i64_w, i32_w]
            rfl
          refine pure_ (i := 13) (N := some 60) (v := ?_) (a' := ?_) (bl 19 16127) rfl rfl (by kernel_rfl) (fun _ _ _ h => h) (Or.inl ⟨by rfl, ?_⟩) ?_ ?_
          rotate_left
          · intro w'
            go_simp
            with_reducible rfl
          rotate_left
          · simp only [Act.put, List.setIfInBounds_toArray, List.set_cons_zero, List.set_cons_succ, i64_w, i32_w]
            rfl
          refine pure_ (i := 15) (N := some 62) (v := ?_) (a' := ?_) (bl 19 48895) rfl rfl (by kernel_rfl) (fun _ _ _ h => h) (Or.inl ⟨by rfl, ?_⟩) ?_ ?_
          rotate_left
          · intro w'
            go_simp
            with_reducible rfl
          rotate_left
          · simp only [Act.put, List.setIfInBounds_toArray, List.set_cons_zero, List.set_cons_succ, i64_w, i32_w]
            rfl
          refine take_ (i := 8) (N := some 55) (v := ?_) (a' := ?_) (bl 19 49151) rfl rfl (by kernel_rfl) (fun _ _ _ h => h) (Or.inl ⟨by rfl, ?_⟩) hHeld ?_ ?_
          rotate_left
          · rintro w' ⟨s0, s1⟩
            go_simp
            with_reducible rfl
          rotate_left
          · simp only [Act.put, List.setIfInBounds_toArray, List.set_cons_zero, List.set_cons_succ, i64_w, i32_w]
            rfl
          refine take_ (i := 14) (N := some 61) (v := ?_) (a' := ?_) (bl 19 65535) rfl rfl (by kernel_rfl) (fun _ _ _ h => h) (Or.inl ⟨by rfl, ?_⟩) hHeld ?_ ?_
          rotate_left
          · rintro w' ⟨s0, s1⟩
            go_simp
            with_reducible rfl
          rotate_left
          · simp only [Act.put, List.setIfInBounds_toArray, List.set_cons_zero, List.set_cons_succ, i64_w, i32_w]
            rfl
          refine one_ (i := 16) (N := some 63) (bl 19 131071) rfl rfl (by kernel_rfl) (by decide) (fun K hK => ?_)
          refine goes_ Try.func41 (by kernel_rfl) rfl #[.slice At (d.th t).length ct, .int .i64 (u : Int)] (by rfl) rfl rfl (by simp only [List.map_toArray, List.map_cons, List.map_nil]; rfl) ?_
          with_reducible refine (at_any _ At ct (d.th t) (u : Int) HVT.out).mono ?_
          rintro ec wc ⟨rfl, hbc⟩
          refine ⟨_, rfl, ?_⟩
          have HMC := Aside0.mk (HM10.out.below hbc)
          have HAC : Aside0 (AccAt wc g9 q1 q2) := ⟨(hbc.block g9 (blk_lt HA10.out)).trans HA10.out⟩
          refine hK.out _ _ ⟨(pw_cell_below hbc hHeld.1), (pw_cell_below hbc hHeld.2)⟩ (fun hHeld => ?_)
          clear hK K
          refine norm_ (a' := ?_) ?_ ?_
          rotate_left
          · show Act.put _ (some 63) _ = _
            simp only [Act.put, List.setIfInBounds_toArray, List.set_cons_zero, List.set_cons_succ, i64_w, i32_w]
            rfl
          refine pure_ (i := 17) (N := some 64) (v := ?_) (a' := ?_) (bl 19 262143) rfl rfl (by kernel_rfl) (fun _ _ _ h => h) (Or.inl ⟨by rfl, ?_⟩) ?_ ?_
          rotate_left
          · intro w'
            go_simp
            with_reducible rfl
          rotate_left
          · simp only [Act.put, List.setIfInBounds_toArray, List.set_cons_zero, List.set_cons_succ, i64_w, i32_w]
            rfl
          refine pure_ (i := 18) (N := some 65) (v := ?_) (a' := ?_) (bl 19 524287) rfl rfl (by kernel_rfl) (fun _ _ _ h => h) (Or.inl ⟨by rfl, ?_⟩) ?_ ?_
          rotate_left
          · intro w'
            go_simp
            with_reducible rfl
          rotate_left
          · simp only [Act.put, List.setIfInBounds_toArray, List.set_cons_zero, List.set_cons_succ, i64_w, i32_w]
            rfl
          refine done_ (by kernel_rfl) ?_
          clear s0 s1 HVT HM10 HA10 n1 n2 hHeld
          cases hgt : decide (atL (d.th t) (u : Int) < q2) with
          | false =>
           have HMR : Aside0 (Mid B W wc g gq gc gl p (σ2.looks e i (u + 1)) v2 vo' g5 g6 e hd.2) := ⟨by
            have e1 : σ2.looks e i (u + 1) = d := by show (σ2.looks e i u).look e i u = d; rw [HDD.out]; exact look_no HQ.out HET.out (.inr (.inr (of_decide_eq_false hgt)))
            rw [e1]; exact HMC.out⟩
           go_wp2
           go_roundg k1
           case measure => omega
           case rel => exact ⟨u + 1, by go_num, ⟨by have := HK.out; omega⟩, ⟨by have := HIN.out; omega⟩, ⟨⟨_, HMR.out⟩⟩⟩
          | true =>
           have HGT := Aside0.mk (of_decide_eq_true hgt)
           go_wp2
           clear hgt
           have HMD := Aside0.mk (HMC.out.below (below_drew (Below.refl _ _)))
           have s0 : wc.drew.cell? ⟨g, 16, none⟩ = some vo' := (blk_cell HMD.out.det.hg 16).trans rfl
           have s1 : wc.drew.cell? ⟨g9, 0, none⟩ = some (.int .i64 q1) := (blk_cell (w := wc.drew) HAC.out 0).trans rfl
           clear HMC
           refine start_ (n := 14) (S := fun w' => w'.cell? ⟨g, 16, none⟩ = some vo' ∧ w'.cell? ⟨g9, 0, none⟩ = some (.int .i64 q1)) (ds := [10, 13]) (bl 14 0) (by kernel_rfl) rfl rfl ⟨s0, s1⟩ (fun hHeld => ?_)
           refine pure_ (i := 0) (N := some 66) (v := ?_) (a' := ?_) (bl 14 1) rfl rfl (by kernel_rfl) (fun _ _ _ h => h) (Or.inl ⟨by rfl, ?_⟩) ?_ ?_
           rotate_left
           · intro w'
             go_simp
             with_reducible rfl
           rotate_left
           · simp only [Act.put, List.setIfInBounds_toArray, List.set_cons_zero, List.set_cons_succ, i64_w, i32_w]
             rfl
           refine pure_ (i := 1) (N := some 67) (v := ?_) (a' := ?_) (bl 14 3) rfl rfl (by kernel_rfl) (fun _ _ _ h => h) (Or.inl ⟨by rfl, ?_⟩) ?_ ?_
           rotate_left
           · intro w'
             go_simp
             with_reducible rfl
           rotate_left
           · simp only [Act.put, List.setIfInBounds_toArray, List.set_cons_zero, List.set_cons_succ, i64_w, i32_w]
             rfl
           refine pure_ (i := 2) (N := some 68) (v := ?_) (a' := ?_) (bl 14 7) rfl rfl (by kernel_rfl) (fun _ _ _ h => h) (Or.inl ⟨by rfl, ?_⟩) ?_ ?_
           rotate_left
           · intro w'
             go_simp
             with_reducible rfl
           rotate_left
           · simp only [Act.put, List.setIfInBounds_toArray, List.set_cons_zero, List.set_cons_succ, i64_w, i32_w]
             rfl
           refine pure_ (i := 3) (N := some 69) (v := ?_) (a' := ?_) (bl 14 15) rfl rfl (by kernel_rfl) (fun _ _ _ h => h) (Or.inl ⟨by rfl, ?_⟩) ?_ ?_
           rotate_left
           · intro w'
             go_simp
             with_reducible rfl
           rotate_left
           · simp only [Act.put, List.setIfInBounds_toArray, List.set_cons_zero, List.set_cons_succ, i64_w, i32_w]
             rfl
           refine pure_ (i := 5) (N := some 71) (v := ?_) (a' := ?_) (bl 14 47) rfl rfl (by kernel_rfl) (fun _ _ _ h => h) (Or.inl ⟨by rfl, ?_⟩) ?_ ?_
           rotate_left
           · intro w'
             go_simp
             with_reducible rfl
           rotate_left
           · simp only [Act.put, List.setIfInBounds_toArray, List.set_cons_zero, List.set_cons_succ, i64_w, i32_w]
             rfl
           refine pure_ (i := 7) (N := some 73) (v := ?_) (a' := ?_) (bl 14 175) rfl rfl (by kernel_rfl) (fun _ _ _ h => h) (Or.inl ⟨by rfl, ?_⟩) ?_ ?_
           rotate_left
           · intro w'
             go_simp
             with_reducible rfl
           rotate_left
           · simp only [Act.put, List.setIfInBounds_toArray, List.set_cons_zero, List.set_cons_succ, i64_w, i32_w]
             rfl
           refine take_ (i := 4) (N := some 70) (v := ?_) (a' := ?_) (bl 14 191) rfl rfl (by kernel_rfl) (fun _ _ _ h => h) (Or.inl ⟨by rfl, ?_⟩) hHeld ?_ ?_
           rotate_left
           · rintro w' ⟨s0, s1⟩
             go_simp
             with_reducible rfl
           rotate_left
           · simp only [Act.put, List.setIfInBounds_toArray, List.set_cons_zero, List.set_cons_succ, i64_w, i32_w]
             rfl
           refine take_ (i := 6) (N := some 72) (v := ?_) (a' := ?_) (bl 14 255) rfl rfl (by kernel_rfl) (fun _ _ _ h => h) (Or.inl ⟨by rfl, ?_⟩) hHeld ?_ ?_
           rotate_left
           · rintro w' ⟨s0, s1⟩
             go_simp
             with_reducible rfl
           rotate_left
           · simp only [Act.put, List.setIfInBounds_toArray, List.set_cons_zero, List.set_cons_succ, i64_w, i32_w]
             rfl
           refine pure_ (i := 8) (N := some 74) (v := ?_) (a' := ?_) (bl 14 511) rfl rfl (by kernel_rfl) (fun _ _ _ h => h) (Or.inl ⟨by rfl, ?_⟩) ?_ ?_
           rotate_left
           · intro w'
             go_simp
             with_reducible rfl
           rotate_left
           · simp only [Act.put, List.setIfInBounds_toArray, List.set_cons_zero, List.set_cons_succ, i64_w, i32_w]
             rfl
           refine one_ (i := 9) (N := some 75) (bl 14 1023) rfl rfl (by kernel_rfl) (by decide) (fun K hK => ?_)
           refine value_ (w1 := ?_) (v := ?_) (by rfl) rfl ?_ ?_
           rotate_left 2
           · go_simp
             constructor
             · rfl
             · rfl
           refine hK.out _ _ ⟨(pw_cell_below (below_alloc (Below.refl _ _) _) hHeld.1), (pw_cell_below (below_alloc (Below.refl _ _) _) hHeld.2)⟩ (fun hHeld => ?_)
           clear hK K
           refine norm_ (a' := ?_) ?_ ?_
           rotate_left
           · show Act.put _ (some 75) _ = _
             simp only [Act.put, List.setIfInBounds_toArray, List.set_cons_zero, List.set_cons_succ, i64_w, i32_w]
             rfl
           refine last_ (i := 10) (N := some 76) (bl 14 2047) rfl rfl (by kernel_rfl) (by decide) (fun K hK => ?_)
           refine Kd.R_append_step k55 (w0 := W) (W := wc.drew) B (by rfl) (.tmp 70) (.tmp 75) 46 55 (.agg #[.int .i64 0, .int .i64 0]) 16 rfl Try.underlying46 info55 rfl (by decide) (by omega) vo' d.out (⟨q1, i⟩ : S55) [.int .i64 q1, .int .i64 i] (fun _ => True) (fun _ => False) rfl rfl (k55_mkM _ _ _ _) (fun _ h => h.elim) (fun _ _ => trivial) HMD.out.det.hout HMD.out.bel HMD.out.size (by have := HDO.out; have := HNN.out; omega) ?_
           intro vap wap hro hbap hgr _
           have HRO := Aside0.mk hro
           have HGR := Aside0.mk hgr
           have c16 : wap.cell? ⟨g, 16, none⟩ = some vo' := (blk_cell (blk_grown HMD.out.det.hg hgr (Kd.R_ne HMD.out.det.hout HMD.out.det.hg (by decide))) 16).trans rfl
           have f16 : wap.frozen? ⟨g, 16, none⟩ = false := blk_frozen (blk_grown HMD.out.det.hg hgr (Kd.R_ne HMD.out.det.hout HMD.out.det.hg (by decide))) 16
           obtain ⟨Av, cv, ev⟩ := Kd.R_slice hro
           subst ev
           clear hro hbap hgr
           refine hK.out _ _ ?_
           clear hK K
           refine norm_ (a' := ?_) ?_ ?_
           rotate_left
           · show Act.put _ (some 76) _ = _
             simp only [Act.put, List.setIfInBounds_toArray, List.set_cons_zero, List.set_cons_succ, i64_w, i32_w]
             rfl
           refine pure_ (i := 11) (N := some 77) (v := ?_) (a' := ?_) (bl 14 4095) rfl rfl (by kernel_rfl) (fun _ _ _ h => h) (Or.inl ⟨by rfl, ?_⟩) ?_ ?_
           rotate_left
           · intro w'
             go_simp
             with_reducible rfl
           rotate_left
           · simp only [Act.put, List.setIfInBounds_toArray, List.set_cons_zero, List.set_cons_succ, i64_w, i32_w]
             rfl
           refine pure_ (i := 12) (N := some 78) (v := ?_) (a' := ?_) (bl 14 8191) rfl rfl (by kernel_rfl) (fun _ _ _ h => h) (Or.inl ⟨by rfl, ?_⟩) ?_ ?_
           rotate_left
           · intro w'
             go_simp
             with_reducible rfl
           rotate_left
           · simp only [Act.put, List.setIfInBounds_toArray, List.set_cons_zero, List.set_cons_succ, i64_w, i32_w]
             rfl
           refine last_ (i := 13) (N := none) (bl 14 16383) rfl rfl (by kernel_rfl) (by decide) (fun K hK => ?_)
           refine skip_ (w1 := wap.setCell ⟨g, 16, none⟩ (.slice Av (d.out ++ [(⟨q1, i⟩ : S55)]).length cv)) (by rfl) rfl ?_ ?_
           · go_simp
           refine hK.out _ _ ?_
           clear hK K
           refine done_ (by kernel_rfl) ?_
           have HMR : Aside0 (Mid B W (wap.setCell ⟨g, 16, none⟩ (.slice Av (d.out ++ [(⟨q1, i⟩ : S55)]).length cv)) g gq gc gl p (σ2.looks e i (u + 1)) v2 (.slice Av (d.out ++ [(⟨q1, i⟩ : S55)]).length cv) g5 g6 e hd.2) := ⟨by
            have e1 : σ2.looks e i (u + 1) = { d with out := d.out ++ [(⟨q1, i⟩ : S55)] } := by show (σ2.looks e i u).look e i u = _; rw [HDD.out]; exact look_yes HQ.out HET.out rfl HUT.out HGT.out
            rw [e1]; exact HMD.out.setOut HGR.out _ _ HRO.out⟩
           clear s0 s1 c16 f16
           try clear hHeld
           generalize wap.setCell ⟨g, 16, none⟩ (.slice Av (d.out ++ [(⟨q1, i⟩ : S55)]).length cv) = wz at HMR ⊢
           go_wp2
           go_roundg k1
           case measure => omega
           case rel => exact ⟨u + 1, by go_num, ⟨by have := HK.out; omega⟩, ⟨by have := HIN.out; omega⟩, ⟨⟨_, HMR.out⟩⟩⟩
     · obtain rfl : u = 6 := by have := HU.out; omega
       have c0 : decide ((6 : Int) < 6) = false := by decide
       have hth : (σ2.looks e i 6).th = σ2.th := (HLK.out 6).2.1
       have HO6 : Aside0 (((σ2.looks e i 6).mark e i).Ok (n + 1)) := ⟨by
        have h9 := HOt.out.mid HO2o.out e i
        rw [if_pos (by unfold touchB; rw [Bool.or_eq_true]; exact HTB.out)] at h9
        exact h9⟩
       obtain ⟨At, ct, et⟩ := Kd.R_slice (HM.out.det.hth t HT.out)
       have HV := HM.out.det.hth t HT.out
       rw [et] at HV
       rw [hth] at HV et
       have HVT := Aside0.mk HV
       have HMR := Aside0.mk (HM.out.below (below_drew (Below.refl _ _)))
       have s0 : wi.drew.cell? ⟨g, 15, none⟩ = some (.map (some gl)) := (blk_cell HMR.out.det.hg 15).trans rfl
       have s1 : wi.drew.cell? ⟨g5, 3, none⟩ = some (.int .i64 e.f3) := (blk_cell HMR.out.ev 3).trans rfl
       have s2 : wi.drew.cell? ⟨g5, 2, none⟩ = some (.int .u8 e.f2) := (blk_cell HMR.out.ev 2).trans rfl
       have s3 : wi.drew.cell? ⟨g, 7 + t, none⟩ = some (.slice At (σ2.th t).length ct) := by rw [← et]; exact HMR.out.det.th_cell t HT.out
       clear HV et hth HLK
       go_wp2
       have hb8 := HB8.out
       refine start_ (n := 22) (S := fun w' => w'.cell? ⟨g, 15, none⟩ = some (.map (some gl)) ∧ w'.cell? ⟨g5, 3, none⟩ = some (.int .i64 e.f3) ∧ w'.cell? ⟨g5, 2, none⟩ = some (.int .u8 e.f2) ∧ w'.cell? ⟨g, 7 + t, none⟩ = some (.slice At (σ2.th t).length ct)) (ds := [21]) (bl 22 0) (by kernel_rfl) rfl rfl ⟨s0, s1, s2, s3⟩ (fun hHeld => ?_)
       refine pure_ (i := 0) (N := some 80) (v := ?_) (a' := ?_) (bl 22 1) rfl rfl (by kernel_rfl) (fun _ _ _ h => h) (Or.inl ⟨by rfl, ?_⟩) ?_ ?_
       rotate_left
       · intro w'
         go_simp
         with_reducible rfl
       rotate_left
       · simp only [Act.put, List.setIfInBounds_toArray, List.set_cons_zero, List.set_cons_succ, i64_w, i32_w]
         rfl
       refine pure_ (i := 1) (N := some 81) (v := ?_) (a' := ?_) (bl 22 3) rfl rfl (by kernel_rfl) (fun _ _ _ h => h) (Or.inl ⟨by rfl, ?_⟩) ?_ ?_
       rotate_left
       · intro w'
         go_simp
         with_reducible rfl
       rotate_left
       · simp only [Act.put, List.setIfInBounds_toArray, List.set_cons_zero, List.set_cons_succ, i64_w, i32_w]
         rfl
       refine pure_ (i := 2) (N := some 82) (v := ?_) (a' := ?_) (bl 22 7) rfl rfl (by kernel_rfl) (fun _ _ _ h => h) (Or.inl ⟨by rfl, ?_⟩) ?_ ?_
       rotate_left
       · intro w'
         go_simp
         with_reducible rfl
       rotate_left
       · simp only [Act.put, List.setIfInBounds_toArray, List.set_cons_zero, List.set_cons_succ, i64_w, i32_w]
         rfl
       refine pure_ (i := 4) (N := some 84) (v := ?_) (a' := ?_) (bl 22 23) rfl rfl (by kernel_rfl) (fun _ _ _ h => h) (Or.inl ⟨by rfl, ?_⟩) ?_ ?_
       rotate_left
       · intro w'
         go_simp
         with_reducible rfl
       rotate_left
       · simp only [Act.put, List.setIfInBounds_toArray, List.set_cons_zero, List.set_cons_succ, i64_w, i32_w]
         rfl
       refine pure_ (i := 5) (N := some 85) (v := ?_) (a' := ?_) (bl 22 55) rfl rfl (by kernel_rfl) (fun _ _ _ h => h) (Or.inl ⟨by rfl, ?_⟩) ?_ ?_
       rotate_left
       · intro w'
         go_simp
         with_reducible rfl
       rotate_left
       · simp only [Act.put, List.setIfInBounds_toArray, List.set_cons_zero, List.set_cons_succ, i64_w, i32_w]
         rfl
       refine pure_ (i := 7) (N := some 87) (v := ?_) (a' := ?_) (bl 22 183) rfl rfl (by kernel_rfl) (fun _ _ _ h => h) (Or.inl ⟨by rfl, ?_⟩) ?_ ?_
       rotate_left
       · intro w'
         go_simp
         with_reducible rfl
       rotate_left
       · simp only [Act.put, List.setIfInBounds_toArray, List.set_cons_zero, List.set_cons_succ, i64_w, i32_w]
         rfl
       refine pure_ (i := 11) (N := some 91) (v := ?_) (a' := ?_) (bl 22 2231) rfl rfl (by kernel_rfl) (fun _ _ _ h => h) (Or.inl ⟨by rfl, ?_⟩) ?_ ?_
       rotate_left
       · intro w'
         go_simp
         with_reducible rfl
       rotate_left
       · simp only [Act.put, List.setIfInBounds_toArray, List.set_cons_zero, List.set_cons_succ, i64_w, i32_w]
         rfl
       refine pure_ (i := 12) (N := some 92) (v := ?_) (a' := ?_) (bl 22 6327) rfl rfl (by kernel_rfl) (fun _ _ _ h => h) (Or.inl ⟨by rfl, ?_⟩) ?_ ?_
       rotate_left
       · intro w'
         go_simp
         with_reducible rfl
       rotate_left
       · simp only [Act.put, List.setIfInBounds_toArray, List.set_cons_zero, List.set_cons_succ, i64_w, i32_w]
         rfl
       refine pure_ (i := 13) (N := some 93) (v := ?_) (a' := ?_) (bl 22 14519) rfl rfl (by kernel_rfl) (fun _ _ _ h => h) (Or.inl ⟨by rfl, ?_⟩) ?_ ?_
       rotate_left
       · intro w'
         go_simp
         with_reducible rfl
       rotate_left
       · simp only [Act.put, List.setIfInBounds_toArray, List.set_cons_zero, List.set_cons_succ, i64_w, i32_w]
         rfl
       refine pure_ (i := 14) (N := some 94) (v := ?_) (a' := ?_) (bl 22 30903) rfl rfl (by kernel_rfl) (fun _ _ _ h => h) (Or.inl ⟨by rfl, ?_⟩) ?_ ?_
       rotate_left
       · intro w'
         go_simp
         with_reducible rfl
       rotate_left
       · simp only [Act.put, List.setIfInBounds_toArray, List.set_cons_zero, List.set_cons_succ, i64_w, i32_w]
         rfl
       refine pure_ (i := 15) (N := some 95) (v := ?_) (a' := ?_) (bl 22 63671) rfl rfl (by kernel_rfl) (fun _ _ _ h => h) (Or.inl ⟨by rfl, ?_⟩) ?_ ?_
       rotate_left
       · intro w'
         go_simp
         with_reducible rfl
       rotate_left
       · simp only [Act.put, List.setIfInBounds_toArray, List.set_cons_zero, List.set_cons_succ, i64_w, i32_w]
         rfl
       refine pure_ (i := 16) (N := some 96) (v := ?_) (a' := ?_) (bl 22 129207) rfl rfl (by kernel_rfl) (fun _ _ _ h => h) (Or.inl ⟨by rfl, ?_⟩) ?_ ?_
       rotate_left
       · intro w'
         go_simp
         with_reducible rfl
       rotate_left
       · simp only [Act.put, List.setIfInBounds_toArray, List.set_cons_zero, List.set_cons_succ, i64_w, i32_w]
         rfl
       refine pure_ (i := 18) (N := some 98) (v := ?_) (a' := ?_) (bl 22 391351) rfl rfl (by kernel_rfl) (fun _ _ _ h => h) (Or.inl ⟨by rfl, ?_⟩) ?_ ?_
       rotate_left
       · intro w'
         go_simp
         with_reducible rfl
       rotate_left
       · simp only [Act.put, List.setIfInBounds_toArray, List.set_cons_zero, List.set_cons_succ, i64_w, i32_w]
         rfl
       refine take_ (i := 3) (N := some 83) (v := ?_) (a' := ?_) (bl 22 391359) rfl rfl (by kernel_rfl) (fun _ _ _ h => h) (Or.inl ⟨by rfl, ?_⟩) hHeld ?_ ?_
       rotate_left
       · rintro w' ⟨s0, s1, s2, s3⟩
         go_simp
         with_reducible rfl
       rotate_left
       · simp only [Act.put, List.setIfInBounds_toArray, List.set_cons_zero, List.set_cons_succ, i64_w, i32_w]
         rfl
       refine take_ (i := 6) (N := some 86) (v := ?_) (a' := ?_) (bl 22 391423) rfl rfl (by kernel_rfl) (fun _ _ _ h => h) (Or.inl ⟨by rfl, ?_⟩) hHeld ?_ ?_
       rotate_left
       · rintro w' ⟨s0, s1, s2, s3⟩
         go_simp
         with_reducible rfl
       rotate_left
       · simp only [Act.put, List.setIfInBounds_toArray, List.set_cons_zero, List.set_cons_succ, i64_w, i32_w]
         rfl
       refine take_ (i := 8) (N := some 88) (v := ?_) (a' := ?_) (bl 22 391679) rfl rfl (by kernel_rfl) (fun _ _ _ h => h) (Or.inl ⟨by rfl, ?_⟩) hHeld ?_ ?_
       rotate_left
       · rintro w' ⟨s0, s1, s2, s3⟩
         go_simp
         with_reducible rfl
       rotate_left
       · simp only [Act.put, List.setIfInBounds_toArray, List.set_cons_zero, List.set_cons_succ, i64_w, i32_w]
         rfl
       refine pure_ (i := 9) (N := some 89) (v := ?_) (a' := ?_) (bl 22 392191) rfl rfl (by kernel_rfl) (fun _ _ _ h => h) (Or.inl ⟨by rfl, ?_⟩) ?_ ?_
       rotate_left
       · intro w'
         go_simp
         with_reducible rfl
       rotate_left
       · simp only [Act.put, List.setIfInBounds_toArray, List.set_cons_zero, List.set_cons_succ, i64_w, i32_w]
         rfl
       refine pure_ (i := 10) (N := some 90) (v := ?_) (a' := ?_) (bl 22 393215) rfl rfl (by kernel_rfl) (fun _ _ _ h => h) (Or.inl ⟨by rfl, ?_⟩) ?_ ?_
       rotate_left
       · intro w'
         go_simp
         with_reducible rfl
       rotate_left
       · simp only [Act.put, List.setIfInBounds_toArray, List.set_cons_zero, List.set_cons_succ, i64_w, i32_w]
         rfl
       refine take_ (i := 17) (N := some 97) (v := ?_) (a' := ?_) (bl 22 524287) rfl rfl (by kernel_rfl) (fun _ _ _ h => h) (Or.inl ⟨by rfl, ?_⟩) hHeld ?_ ?_
       rotate_left
       · rintro w' ⟨s0, s1, s2, s3⟩
         go_simp
         with_reducible rfl
       rotate_left
       · simp only [Act.put, List.setIfInBounds_toArray, List.set_cons_zero, List.set_cons_succ, i64_w, i32_w]
         rfl
       refine one_ (i := 19) (N := some 99) (bl 22 1048575) rfl rfl (by kernel_rfl) (by decide) (fun K hK => ?_)
       refine goes_ Try.func41 (by kernel_rfl) rfl #[.slice At (σ2.th t).length ct, .int .i64 (t : Int)] (by rfl) rfl rfl (by simp only [List.map_toArray, List.map_cons, List.map_nil]; rfl) ?_
       with_reducible refine (at_any _ At ct (σ2.th t) (t : Int) (Kd.R_below HVT.out (below_drew (Below.refl _ _)))).mono ?_
       rintro ec wc ⟨rfl, hbc⟩
       refine ⟨_, rfl, ?_⟩
       have HMC := Aside0.mk (HMR.out.below hbc)
       obtain ⟨o3, hmu, hm3⟩ := HMC.out.setLa ((t : Int), e.f3, b8) (i, atL (σ2.th t) (t : Int))
       have HMY := Aside0.mk hm3
       unfold encTch accV at hmu
       have hmu' : (Instr.mapUpdate 76 (.map (some gl)) (.agg #[.int .i64 (t : Int), .int .i64 e.f3, .bool b8]) (.agg #[.int .i64 i, .int .i64 (atL (σ2.th t) (t : Int))])).run Try.prog wc = .ok () (setBlock wc gl o3) := hmu
       clear hmu hm3
       refine hK.out _ _ ⟨(pw_cell_below hbc hHeld.1), (pw_cell_below hbc hHeld.2.1), (pw_cell_below hbc hHeld.2.2.1), (pw_cell_below hbc hHeld.2.2.2)⟩ (fun hHeld => ?_)
       clear hK K
       refine norm_ (a' := ?_) ?_ ?_
       rotate_left
       · show Act.put _ (some 99) _ = _
         simp only [Act.put, List.setIfInBounds_toArray, List.set_cons_zero, List.set_cons_succ, i64_w, i32_w]
         rfl
       refine pure_ (i := 20) (N := some 100) (v := ?_) (a' := ?_) (bl 22 2097151) rfl rfl (by kernel_rfl) (fun _ _ _ h => h) (Or.inl ⟨by rfl, ?_⟩) ?_ ?_
       rotate_left
       · intro w'
         go_simp
         with_reducible rfl
       rotate_left
       · simp only [Act.put, List.setIfInBounds_toArray, List.set_cons_zero, List.set_cons_succ, i64_w, i32_w]
         rfl
       refine last_ (i := 21) (N := none) (bl 22 4194303) rfl rfl (by kernel_rfl) (by decide) (fun K hK => ?_)
       refine skip_ (w1 := setBlock wc gl o3) (by rfl) rfl ?_ ?_
       · go_simp
       refine hK.out _ _ ?_
       clear hK K
       refine done_ (by kernel_rfl) ?_
       have HMZ : Aside0 (Mid B W (setBlock wc gl o3) g gq gc gl p ((σ2.looks e i 6).mark e i) v2 vo' g5 g6 e hd.2) := ⟨by
        have h9 := HMY.out
        unfold Det.mark
        rw [HB8.out, HET.out, Int.toNat_natCast, (Det.looks_out σ2 e i 6).2.1]
        rw [(Det.looks_out σ2 e i 6).2.1] at h9
        exact h9⟩
       clear s0 s1 s2 s3 hb8 hmu' HMR HVT HMY hHeld HM
       generalize setBlock wc gl o3 = w5 at HMZ ⊢
       have s50 : w5.cell? ⟨g5, 0, none⟩ = some (.int .i64 (t : Int)) := (blk_cell HMZ.out.ev 0).trans (by first | rfl | simp [HET.out])
       have s51 : w5.cell? ⟨g5, 1, none⟩ = some (.int .i64 e.f1) := (blk_cell HMZ.out.ev 1).trans (by first | rfl | simp [HET.out])
       have s52 : w5.cell? ⟨g5, 2, none⟩ = some (.int .u8 e.f2) := (blk_cell HMZ.out.ev 2).trans (by first | rfl | simp [HET.out])
       have s53 : w5.cell? ⟨g5, 3, none⟩ = some (.int .i64 e.f3) := (blk_cell HMZ.out.ev 3).trans (by first | rfl | simp [HET.out])
       have s54 : w5.cell? ⟨g5, 4, none⟩ = some (.int .i64 e.f4) := (blk_cell HMZ.out.ev 4).trans (by first | rfl | simp [HET.out])
       have s55 : w5.cell? ⟨g5, 5, none⟩ = some (.int .i64 e.f5) := (blk_cell HMZ.out.ev 5).trans (by first | rfl | simp [HET.out])
       have k50 : w5.cell? ⟨g6, 0, none⟩ = some (.int .u8 hd.2.1) := (blk_cell HMZ.out.key 0).trans rfl
       have k51 : w5.cell? ⟨g6, 1, none⟩ = some (.int .i64 hd.2.2.1) := (blk_cell HMZ.out.key 1).trans rfl
       have k52 : w5.cell? ⟨g6, 2, none⟩ = some (.int .i64 hd.2.2.2) := (blk_cell HMZ.out.key 2).trans rfl
       go_wp2_with (first | ((with_reducible refine gate_callee (f := 42) rfl ?_); (try (refine gate_guard (by rfl) ?_; dsimp only)); (refine goesL_ (some 104) rfl rfl Try.func42 (by kernel_rfl) rfl #[.pointer (some ⟨g, 0, none⟩), .agg #[.int .i64 (t : Int), .int .i64 e.f1, .int .u8 e.f2, .int .i64 e.f3, .int .i64 e.f4, .int .i64 e.f5], .agg #[.int .u8 hd.2.1, .int .i64 hd.2.2.1, .int .i64 hd.2.2.2]] rfl (by simp [Act.eval]) ?_; refine (say_any HMZ.out.det HO6.out e t HET.out HT.out hd.2 r HRS.out).mono ?_; rintro es ws ⟨vs, rfl, hf, hdd⟩; have HFI : Aside0 (Below B W ws ∧ DetAt B ws g gq gc gl p r vs vo') := ⟨hf.below HMZ.out.bel HMZ.out.size HGE.out, hdd⟩; clear hf hdd; refine ⟨_, rfl, ?_⟩)))
       go_end0
       exact ⟨_, _, rfl, HFI.out.1, HFI.out.2⟩
end
end Go.Proofs.Ytblnimopffhocaa.P
