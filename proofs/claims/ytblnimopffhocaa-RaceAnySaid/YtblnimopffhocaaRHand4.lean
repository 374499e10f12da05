/- hear, walked. -/
import Derived.Test.YtblnimopffhocaaXBits
import Derived.Test.YtblnimopffhocaaRHand3
namespace Go.Proofs.Ytblnimopffhocaa.P
open Go.RowKit Go.Proofs.YtblnimopffhocaaW.PrintWords Go.Proofs.YtblnimopffhocaaW.PrintLast Go.Proofs.YtblnimopffhocaaW.PrintMore Go.Proofs.YtblnimopffhocaaX Go.ChangeMaps
set_option linter.unusedVariables false
set_option linter.unusedSimpArgs false
section
variable {B g gk gc gl : Nat} {w w1 : World} {p v : Nat → Value} {σ : Det} {vo : Value} {n : Nat}
set_option maxRecDepth 100000 in
set_option maxHeartbeats 4000000 in
theorem hear_any (h : DetAt B w g gk gc gl p σ v vo) (hO : σ.Ok n) (hn : n ≤ 1000000000) (A3 : Option Addr) (c3 : Nat) (l3 : List Int) (hp : p 3 = .slice A3 l3.length c3) (hC3 : ∀ w', Fr g gk gc gl w w' → Kd.C (Kd.int .i64) w' A3 l3.length l3)
 (e : S40) (t : Nat) (het : e.f0 = (t : Int)) (ht : t < 6) (r : Det × Key) (hr : σ.hear l3 e = r) :
 Calls Try.prog 38 #[.pointer (some ⟨g, 0, none⟩), .agg #[.int .i64 (t : Int), .int .i64 e.f1, .int .u8 e.f2, .int .i64 e.f3, .int .i64 e.f4, .int .i64 e.f5]] w fun en w' => ∃ v', en = .returned (.agg #[.int .u8 r.2.1, .int .i64 r.2.2.1, .int .i64 r.2.2.2]) ∧ Fr g gk gc gl w w' ∧ DetAt B w' g gk gc gl p r.1 v' vo := by
 have HD := Aside0.mk h
 have HO := Aside0.mk hO
 have HNN := Aside0.mk hn
 have HP := Aside0.mk hp
 have HC3 := Aside0.mk hC3
 have HT := Aside0.mk ht
 have HR := Aside0.mk hr
 have HET := Aside0.mk het
 clear h hO hn hp hC3 ht hr het
 go_enter Try.func38, Try.ntmps38
 go_wp2_with (first | ((with_reducible refine gate_dst (N := 3) rfl ?_); refine box_event ?hg (N := 3) ?hd (cs := #[.int .i64 (t : Int), .int .i64 e.f1, .int .u8 e.f2, .int .i64 e.f3, .int .i64 e.f4, .int .i64 e.f5]) (t := 40) ?hr ?_; (case hd => rfl); (case hg => rfl); (case hr => first | (go_simp; done) | (go_simp; rfl)); intro g3 hg3_ w1 hbg3_ hlg3_; have HNg3 := Aside0.mk hg3_; have HBg3 := Aside0.mk hbg3_; have HLg3 := Aside0.mk hlg3_; clear hg3_ hbg3_ hlg3_) | ((with_reducible refine gate_dst (N := 4) rfl ?_); refine box_event ?hg (N := 4) ?hd (cs := #[.int .u8 0, .int .i64 0, .int .i64 0]) (t := 89) ?hr ?_; (case hd => rfl); (case hg => rfl); (case hr => first | (go_simp; done) | (go_simp; rfl)); intro g4 hg4_ w2 hbg4_ hlg4_; have HNg4 := Aside0.mk hg4_; have HBg4 := Aside0.mk hbg4_; have HLg4 := Aside0.mk hlg4_; clear hg4_ hbg4_ hlg4_))
 have H12 := Aside0.mk (below_then HLg3.out HLg3.out.size HLg4.out)
 have s0 : w2.drew.cell? ⟨g3, 0, none⟩ = some (.int .i64 (t : Int)) := (blk_cell (w := w2.drew) ((HLg4.out.block g3 (blk_lt HBg3.out)).trans HBg3.out) 0).trans rfl
 have s1 : w2.drew.cell? ⟨g3, 3, none⟩ = some (.int .i64 e.f3) := (blk_cell (w := w2.drew) ((HLg4.out.block g3 (blk_lt HBg3.out)).trans HBg3.out) 3).trans rfl
 refine start_ (n := 6) (S := fun w' => w'.cell? ⟨g3, 0, none⟩ = some (.int .i64 (t : Int)) ∧ w'.cell? ⟨g3, 3, none⟩ = some (.int .i64 e.f3)) (ds := []) (bl 6 0) (by kernel_rfl) rfl rfl ⟨s0, s1⟩ (fun hHeld => ?_)
 refine pure_ (i := 0) (N := some 9) (v := ?_) (a' := ?_) (bl 6 1) rfl rfl (by kernel_rfl) (fun _ _ _ h => h) (Or.inl ⟨by rfl, ?_⟩) ?_ ?_
 rotate_left
 · intro w'
   go_simp
   with_reducible rfl
 rotate_left
 · simp only [Act.put, List.setIfInBounds_toArray, List.set_cons_zero, List.set_cons_succ, i64_w, i32_w]
   rfl
 refine pure_ (i := 2) (N := some 11) (v := ?_) (a' := ?_) (bl 6 5) rfl rfl (by kernel_rfl) (fun _ _ _ h => h) (Or.inl ⟨by rfl, ?_⟩) ?_ ?_
 rotate_left
 · intro w'
   go_simp
   with_reducible rfl
 rotate_left
 · simp only [Act.put, List.setIfInBounds_toArray, List.set_cons_zero, List.set_cons_succ, i64_w, i32_w]
   rfl
 refine take_ (i := 1) (N := some 10) (v := ?_) (a' := ?_) (bl 6 7) rfl rfl (by kernel_rfl) (fun _ _ _ h => h) (Or.inl ⟨by rfl, ?_⟩) hHeld ?_ ?_
 rotate_left
 · rintro w' ⟨s0, s1⟩
   go_simp
   with_reducible rfl
 rotate_left
 · simp only [Act.put, List.setIfInBounds_toArray, List.set_cons_zero, List.set_cons_succ, i64_w, i32_w]
   rfl
 refine pure_ (i := 4) (N := some 5) (v := ?_) (a' := ?_) (bl 6 23) rfl rfl (by kernel_rfl) (fun _ _ _ h => h) (Or.inl ⟨by rfl, ?_⟩) ?_ ?_
 rotate_left
 · intro w'
   go_simp
   with_reducible rfl
 rotate_left
 · simp only [Act.put, List.setIfInBounds_toArray, List.set_cons_zero, List.set_cons_succ, i64_w, i32_w]
   rfl
 refine take_ (i := 3) (N := some 12) (v := ?_) (a' := ?_) (bl 6 31) rfl rfl (by kernel_rfl) (fun _ _ _ h => h) (Or.inl ⟨by rfl, ?_⟩) hHeld ?_ ?_
 rotate_left
 · rintro w' ⟨s0, s1⟩
   go_simp
   with_reducible rfl
 rotate_left
 · simp only [Act.put, List.setIfInBounds_toArray, List.set_cons_zero, List.set_cons_succ, i64_w, i32_w]
   rfl
 refine pure_ (i := 5) (N := some 6) (v := ?_) (a' := ?_) (bl 6 63) rfl rfl (by kernel_rfl) (fun _ _ _ h => h) (Or.inl ⟨by rfl, ?_⟩) ?_ ?_
 rotate_left
 · intro w'
   go_simp
   with_reducible rfl
 rotate_left
 · simp only [Act.put, List.setIfInBounds_toArray, List.set_cons_zero, List.set_cons_succ, i64_w, i32_w]
   rfl
 refine done_ (by kernel_rfl) ?_
 have HFa : Aside0 (Fr g gk gc gl w w2.drew) := ⟨Fr.of_below (below_then H12.out H12.out.size (below_drew (Below.refl _ _)))⟩
 have HDa := Aside0.mk ((HD.out.below H12.out).below (below_drew (Below.refl _ _)))
 have HZg4_a : Aside0 (KeyAt w2.drew g4 (0, 0, 0)) := ⟨HBg4.out⟩
 have HNg4' : Aside0 (g4 ≠ g ∧ g4 ≠ gk ∧ g4 ≠ gc ∧ g4 ≠ gl) := ⟨by have := HD.out.lt; have := HNg4.out; have := HLg3.out.size; omega⟩
 have HSZ : Aside0 (w.heap.size ≤ g4) := ⟨by have := HNg4.out; have := HLg3.out.size; omega⟩
 have u2 : w2.drew.cell? ⟨g3, 2, none⟩ = some (.int .u8 e.f2) := (blk_cell (w := w2.drew) ((HLg4.out.block g3 (blk_lt HBg3.out)).trans HBg3.out) 2).trans rfl
 have u5 : w2.drew.cell? ⟨g3, 5, none⟩ = some (.int .i64 e.f5) := (blk_cell (w := w2.drew) ((HLg4.out.block g3 (blk_lt HBg3.out)).trans HBg3.out) 5).trans rfl
 clear HNg4
 have HNg4 := HNg4'
 clear HNg4' s0 s1 hHeld HD HNg3 HBg3 HLg3 HBg4 HLg4 H12
 generalize w2.drew = wa at HFa HDa HZg4_a u2 u5 ⊢
 cases h13 : e.f2 == 13 with
 | true =>
  have hr2 := HR.out
  simp only [Det.hear, h13, HET.out, Int.toNat_natCast, Bool.or_true, Bool.or_false, Bool.true_or, Bool.false_or, if_true, if_false, reduceIte, Bool.false_eq_true] at hr2
  have HR2 := Aside0.mk hr2
  clear hr2
  go_wp2_with (first | ((with_reducible refine gate_callee (f := 52) rfl ?_); (try (refine gate_guard (by rfl) ?_; dsimp only)); (refine goesL_ (some 21) rfl rfl Try.func52 (by kernel_rfl) rfl #[.pointer (some ⟨g, 0, none⟩), .int .i64 (t : Int), .agg #[.int .u8 0, .int .i64 e.f3, .int .i64 0]] rfl (by simp [Act.eval]) ?_; refine (learn_any HDa.out HO.out t HT.out (0, e.f3, 0)).mono ?_; rintro eb wb ⟨rfl, hf, vb, hd⟩; have HDb := Aside0.mk hd; have HFb := Aside0.mk (HFa.out.trans hf); have HZg4_b : Aside0 (KeyAt wb g4 (0, 0, 0)) := ⟨(hf.block g4 (blk_lt HZg4_a.out) HNg4.out.1 HNg4.out.2.1 HNg4.out.2.2.1 HNg4.out.2.2.2).trans HZg4_a.out⟩; clear hf hd; refine ⟨_, rfl, ?_⟩)) | ((with_reducible refine gate_callee (f := 52) rfl ?_); (try (refine gate_guard (by rfl) ?_; dsimp only)); (refine goesL_ (some 26) rfl rfl Try.func52 (by kernel_rfl) rfl #[.pointer (some ⟨g, 0, none⟩), .int .i64 (t : Int), .agg #[.int .u8 1, .int .i64 e.f3, .int .i64 0]] rfl (by simp [Act.eval]) ?_; refine (learn_any HDb.out (HO.out.learn t (0, e.f3, 0)) t HT.out (1, e.f3, 0)).mono ?_; rintro ed wd ⟨rfl, hf, vd, hd⟩; have HDd := Aside0.mk hd; have HFd := Aside0.mk (HFb.out.trans hf); have HZg4_d : Aside0 (KeyAt wd g4 (0, 0, 0)) := ⟨(hf.block g4 (blk_lt HZg4_b.out) HNg4.out.1 HNg4.out.2.1 HNg4.out.2.2.1 HNg4.out.2.2.2).trans HZg4_b.out⟩; clear hf hd; refine ⟨_, rfl, ?_⟩)) | ((with_reducible refine gate_store (t := 89) (p := 4) rfl ?_); (have hs0 : wd.cell? ⟨g4, 0, none⟩ = some (.int .u8 0) := (blk_cell HZg4_d.out 0).trans rfl; have hf0 : wd.frozen? ⟨g4, 0, none⟩ = false := blk_frozen HZg4_d.out 0; have hs1 : wd.cell? ⟨g4, 1, none⟩ = some (.int .i64 0) := (blk_cell HZg4_d.out 1).trans rfl; have hf1 : wd.frozen? ⟨g4, 1, none⟩ = false := blk_frozen HZg4_d.out 1; have hs2 : wd.cell? ⟨g4, 2, none⟩ = some (.int .i64 0) := (blk_cell HZg4_d.out 2).trans rfl; have hf2 : wd.frozen? ⟨g4, 2, none⟩ = false := blk_frozen HZg4_d.out 2; refine skipL_ (w1 := put3 wd g4 (0, 0, 0)) rfl rfl (by go_simp; rfl) ?_; clear hs0 hs1 hs2 hf0 hf1 hf2; have HPg4 := Aside0.mk (put3_blk (k := (0, 0, 0)) HZg4_d.out); have HQg4 := Aside0.mk (put3_below wd g4 (0, 0, 0)); generalize put3 wd g4 (0, 0, 0) = wz at HPg4 HQg4 ⊢)))
  have HFz : Aside0 (Fr g gk gc gl w wz) := ⟨HFd.out.then6 HQg4.out HSZ.out⟩
  have HDz := Aside0.mk (HDd.out.only HQg4.out HZg4_d.out (by decide) (by decide) (by decide))
  have r0 : wz.cell? ⟨g4, 0, none⟩ = some (.int .u8 0) := (blk_cell HPg4.out 0).trans rfl
  have r1 : wz.cell? ⟨g4, 1, none⟩ = some (.int .i64 0) := (blk_cell HPg4.out 1).trans rfl
  have r2 : wz.cell? ⟨g4, 2, none⟩ = some (.int .i64 0) := (blk_cell HPg4.out 2).trans rfl
  refine bodyPost_ret (v := .agg #[.int .u8 0, .int .i64 0, .int .i64 0]) (by simp [results, Try.results38, go_sem, r0, r1, r2]) rfl ?_
  rw [← HR2.out]
  exact ⟨_, rfl, HFz.out, HDz.out⟩
 | false =>
  cases h15 : e.f2 == 15 with
  | true =>
   have hr2 := HR.out
   simp only [Det.hear, h13, h15, HET.out, Int.toNat_natCast, Bool.or_true, Bool.or_false, Bool.true_or, Bool.false_or, if_true, if_false, reduceIte, Bool.false_eq_true] at hr2
   have HR2 := Aside0.mk hr2
   clear hr2
   go_wp2_with (first | ((with_reducible refine gate_callee (f := 52) rfl ?_); (try (refine gate_guard (by rfl) ?_; dsimp only)); (refine goesL_ (some 33) rfl rfl Try.func52 (by kernel_rfl) rfl #[.pointer (some ⟨g, 0, none⟩), .int .i64 (t : Int), .agg #[.int .u8 0, .int .i64 e.f3, .int .i64 0]] rfl (by simp [Act.eval]) ?_; refine (learn_any HDa.out HO.out t HT.out (0, e.f3, 0)).mono ?_; rintro eb wb ⟨rfl, hf, vb, hd⟩; have HDb := Aside0.mk hd; have HFb := Aside0.mk (HFa.out.trans hf); have HZg4_b : Aside0 (KeyAt wb g4 (0, 0, 0)) := ⟨(hf.block g4 (blk_lt HZg4_a.out) HNg4.out.1 HNg4.out.2.1 HNg4.out.2.2.1 HNg4.out.2.2.2).trans HZg4_a.out⟩; clear hf hd; refine ⟨_, rfl, ?_⟩)) | ((with_reducible refine gate_store (t := 89) (p := 4) rfl ?_); (have hs0 : wb.cell? ⟨g4, 0, none⟩ = some (.int .u8 0) := (blk_cell HZg4_b.out 0).trans rfl; have hf0 : wb.frozen? ⟨g4, 0, none⟩ = false := blk_frozen HZg4_b.out 0; have hs1 : wb.cell? ⟨g4, 1, none⟩ = some (.int .i64 0) := (blk_cell HZg4_b.out 1).trans rfl; have hf1 : wb.frozen? ⟨g4, 1, none⟩ = false := blk_frozen HZg4_b.out 1; have hs2 : wb.cell? ⟨g4, 2, none⟩ = some (.int .i64 0) := (blk_cell HZg4_b.out 2).trans rfl; have hf2 : wb.frozen? ⟨g4, 2, none⟩ = false := blk_frozen HZg4_b.out 2; refine skipL_ (w1 := put3 wb g4 (0, 0, 0)) rfl rfl (by go_simp; rfl) ?_; clear hs0 hs1 hs2 hf0 hf1 hf2; have HPg4 := Aside0.mk (put3_blk (k := (0, 0, 0)) HZg4_b.out); have HQg4 := Aside0.mk (put3_below wb g4 (0, 0, 0)); generalize put3 wb g4 (0, 0, 0) = wz at HPg4 HQg4 ⊢)))
   have HFz : Aside0 (Fr g gk gc gl w wz) := ⟨HFb.out.then6 HQg4.out HSZ.out⟩
   have HDz := Aside0.mk (HDb.out.only HQg4.out HZg4_b.out (by decide) (by decide) (by decide))
   have r0 : wz.cell? ⟨g4, 0, none⟩ = some (.int .u8 0) := (blk_cell HPg4.out 0).trans rfl
   have r1 : wz.cell? ⟨g4, 1, none⟩ = some (.int .i64 0) := (blk_cell HPg4.out 1).trans rfl
   have r2 : wz.cell? ⟨g4, 2, none⟩ = some (.int .i64 0) := (blk_cell HPg4.out 2).trans rfl
   refine bodyPost_ret (v := .agg #[.int .u8 0, .int .i64 0, .int .i64 0]) (by simp [results, Try.results38, go_sem, r0, r1, r2]) rfl ?_
   rw [← HR2.out]
   exact ⟨_, rfl, HFz.out, HDz.out⟩
  | false =>
   cases h17 : e.f2 == 17 with
   | true =>
    have hr2 := HR.out
    simp only [Det.hear, h13, h15, h17, HET.out, Int.toNat_natCast, Bool.or_true, Bool.or_false, Bool.true_or, Bool.false_or, if_true, if_false, reduceIte, Bool.false_eq_true] at hr2
    have HR2 := Aside0.mk hr2
    clear hr2
    go_wp2_with (first | ((with_reducible refine gate_callee (f := 52) rfl ?_); (try (refine gate_guard (by rfl) ?_; dsimp only)); (refine goesL_ (some 41) rfl rfl Try.func52 (by kernel_rfl) rfl #[.pointer (some ⟨g, 0, none⟩), .int .i64 (t : Int), .agg #[.int .u8 2, .int .i64 e.f3, .int .i64 0]] rfl (by simp [Act.eval]) ?_; refine (learn_any HDa.out HO.out t HT.out (2, e.f3, 0)).mono ?_; rintro eb wb ⟨rfl, hf, vb, hd⟩; have HDb := Aside0.mk hd; have HFb := Aside0.mk (HFa.out.trans hf); have HZg4_b : Aside0 (KeyAt wb g4 (0, 0, 0)) := ⟨(hf.block g4 (blk_lt HZg4_a.out) HNg4.out.1 HNg4.out.2.1 HNg4.out.2.2.1 HNg4.out.2.2.2).trans HZg4_a.out⟩; clear hf hd; refine ⟨_, rfl, ?_⟩)) | ((with_reducible refine gate_store (t := 89) (p := 4) rfl ?_); (have hs0 : wb.cell? ⟨g4, 0, none⟩ = some (.int .u8 0) := (blk_cell HZg4_b.out 0).trans rfl; have hf0 : wb.frozen? ⟨g4, 0, none⟩ = false := blk_frozen HZg4_b.out 0; have hs1 : wb.cell? ⟨g4, 1, none⟩ = some (.int .i64 0) := (blk_cell HZg4_b.out 1).trans rfl; have hf1 : wb.frozen? ⟨g4, 1, none⟩ = false := blk_frozen HZg4_b.out 1; have hs2 : wb.cell? ⟨g4, 2, none⟩ = some (.int .i64 0) := (blk_cell HZg4_b.out 2).trans rfl; have hf2 : wb.frozen? ⟨g4, 2, none⟩ = false := blk_frozen HZg4_b.out 2; refine skipL_ (w1 := put3 wb g4 (0, 0, 0)) rfl rfl (by go_simp; rfl) ?_; clear hs0 hs1 hs2 hf0 hf1 hf2; have HPg4 := Aside0.mk (put3_blk (k := (0, 0, 0)) HZg4_b.out); have HQg4 := Aside0.mk (put3_below wb g4 (0, 0, 0)); generalize put3 wb g4 (0, 0, 0) = wz at HPg4 HQg4 ⊢)))
    have HFz : Aside0 (Fr g gk gc gl w wz) := ⟨HFb.out.then6 HQg4.out HSZ.out⟩
    have HDz := Aside0.mk (HDb.out.only HQg4.out HZg4_b.out (by decide) (by decide) (by decide))
    have r0 : wz.cell? ⟨g4, 0, none⟩ = some (.int .u8 0) := (blk_cell HPg4.out 0).trans rfl
    have r1 : wz.cell? ⟨g4, 1, none⟩ = some (.int .i64 0) := (blk_cell HPg4.out 1).trans rfl
    have r2 : wz.cell? ⟨g4, 2, none⟩ = some (.int .i64 0) := (blk_cell HPg4.out 2).trans rfl
    refine bodyPost_ret (v := .agg #[.int .u8 0, .int .i64 0, .int .i64 0]) (by simp [results, Try.results38, go_sem, r0, r1, r2]) rfl ?_
    rw [← HR2.out]
    exact ⟨_, rfl, HFz.out, HDz.out⟩
   | false =>
    cases h19 : e.f2 == 19 with
    | true =>
     have hr2 := HR.out
     simp only [Det.hear, h13, h15, h17, h19, HET.out, Int.toNat_natCast, Bool.or_true, Bool.or_false, Bool.true_or, Bool.false_or, if_true, if_false, reduceIte, Bool.false_eq_true] at hr2
     have HR2 := Aside0.mk hr2
     clear hr2
     go_wp2_with (first | ((with_reducible refine gate_callee (f := 52) rfl ?_); (try (refine gate_guard (by rfl) ?_; dsimp only)); (refine goesL_ (some 41) rfl rfl Try.func52 (by kernel_rfl) rfl #[.pointer (some ⟨g, 0, none⟩), .int .i64 (t : Int), .agg #[.int .u8 2, .int .i64 e.f3, .int .i64 0]] rfl (by simp [Act.eval]) ?_; refine (learn_any HDa.out HO.out t HT.out (2, e.f3, 0)).mono ?_; rintro eb wb ⟨rfl, hf, vb, hd⟩; have HDb := Aside0.mk hd; have HFb := Aside0.mk (HFa.out.trans hf); have HZg4_b : Aside0 (KeyAt wb g4 (0, 0, 0)) := ⟨(hf.block g4 (blk_lt HZg4_a.out) HNg4.out.1 HNg4.out.2.1 HNg4.out.2.2.1 HNg4.out.2.2.2).trans HZg4_a.out⟩; clear hf hd; refine ⟨_, rfl, ?_⟩)) | ((with_reducible refine gate_store (t := 89) (p := 4) rfl ?_); (have hs0 : wb.cell? ⟨g4, 0, none⟩ = some (.int .u8 0) := (blk_cell HZg4_b.out 0).trans rfl; have hf0 : wb.frozen? ⟨g4, 0, none⟩ = false := blk_frozen HZg4_b.out 0; have hs1 : wb.cell? ⟨g4, 1, none⟩ = some (.int .i64 0) := (blk_cell HZg4_b.out 1).trans rfl; have hf1 : wb.frozen? ⟨g4, 1, none⟩ = false := blk_frozen HZg4_b.out 1; have hs2 : wb.cell? ⟨g4, 2, none⟩ = some (.int .i64 0) := (blk_cell HZg4_b.out 2).trans rfl; have hf2 : wb.frozen? ⟨g4, 2, none⟩ = false := blk_frozen HZg4_b.out 2; refine skipL_ (w1 := put3 wb g4 (0, 0, 0)) rfl rfl (by go_simp; rfl) ?_; clear hs0 hs1 hs2 hf0 hf1 hf2; have HPg4 := Aside0.mk (put3_blk (k := (0, 0, 0)) HZg4_b.out); have HQg4 := Aside0.mk (put3_below wb g4 (0, 0, 0)); generalize put3 wb g4 (0, 0, 0) = wz at HPg4 HQg4 ⊢)))
     have HFz : Aside0 (Fr g gk gc gl w wz) := ⟨HFb.out.then6 HQg4.out HSZ.out⟩
     have HDz := Aside0.mk (HDb.out.only HQg4.out HZg4_b.out (by decide) (by decide) (by decide))
     have r0 : wz.cell? ⟨g4, 0, none⟩ = some (.int .u8 0) := (blk_cell HPg4.out 0).trans rfl
     have r1 : wz.cell? ⟨g4, 1, none⟩ = some (.int .i64 0) := (blk_cell HPg4.out 1).trans rfl
     have r2 : wz.cell? ⟨g4, 2, none⟩ = some (.int .i64 0) := (blk_cell HPg4.out 2).trans rfl
     refine bodyPost_ret (v := .agg #[.int .u8 0, .int .i64 0, .int .i64 0]) (by simp [results, Try.results38, go_sem, r0, r1, r2]) rfl ?_
     rw [← HR2.out]
     exact ⟨_, rfl, HFz.out, HDz.out⟩
    | false =>
     cases h20 : e.f2 == 20 with
     | true =>
      obtain ⟨c, hc⟩ : ∃ c, σ.ct (3, e.f3, 0) = c := ⟨_, rfl⟩
      have hc0 := HO.out.ct (3, e.f3, 0)
      rw [hc] at hc0
      have q0 : (0 : Int) ≤ c := hc0.1
      have q1 : c ≤ 1000000000 := by have := HNN.out; omega
      have HC := Aside0.mk hc
      clear hc hc0
      have hr2 := HR.out
      simp only [Det.hear, h13, h15, h17, h19, h20, HC.out, HET.out, Int.toNat_natCast, Bool.or_true, Bool.or_false, Bool.true_or, Bool.false_or, if_true, if_false, reduceIte, Bool.false_eq_true] at hr2
      have HR2 := Aside0.mk hr2
      clear hr2
      go_wp2_with (first | ((with_reducible refine gate_callee (f := 53) rfl ?_); (try (refine gate_guard (by rfl) ?_; dsimp only)); (refine goesL_ (some 46) rfl rfl Try.func53 (by kernel_rfl) rfl #[.pointer (some ⟨g, 0, none⟩), .int .u8 3, .int .i64 e.f3] rfl (by simp [Act.eval]) ?_; refine (next_any HDa.out HO.out HNN.out 3 e.f3).mono ?_; rintro eb wb ⟨rfl, hf, hd⟩; rw [HC.out]; have HDb := Aside0.mk hd; have HFb := Aside0.mk (HFa.out.trans hf); have HZg4_b : Aside0 (KeyAt wb g4 (0, 0, 0)) := ⟨(hf.block g4 (blk_lt HZg4_a.out) HNg4.out.1 HNg4.out.2.1 HNg4.out.2.2.1 HNg4.out.2.2.2).trans HZg4_a.out⟩; clear hf hd; refine ⟨_, rfl, ?_⟩)) | ((with_reducible refine gate_dst (N := 7) rfl ?_); refine box_event ?hg (N := 7) ?hd (cs := #[.int .u8 0, .int .i64 0, .int .i64 0]) (t := 89) ?hr ?_; (case hd => rfl); (case hg => rfl); (case hr => first | (go_simp; done) | (go_simp; rfl)); intro g7 hg7_ wx hbg7_ hlg7_; have HNg7 := Aside0.mk hg7_; have HBg7 := Aside0.mk hbg7_; have HLg7 := Aside0.mk hlg7_; clear hg7_ hbg7_ hlg7_) | ((with_reducible refine gate_store (t := 89) (p := 7) rfl ?_); (have hs0 : wx.cell? ⟨g7, 0, none⟩ = some (.int .u8 0) := (blk_cell HBg7.out 0).trans rfl; have hf0 : wx.frozen? ⟨g7, 0, none⟩ = false := blk_frozen HBg7.out 0; have hs1 : wx.cell? ⟨g7, 1, none⟩ = some (.int .i64 0) := (blk_cell HBg7.out 1).trans rfl; have hf1 : wx.frozen? ⟨g7, 1, none⟩ = false := blk_frozen HBg7.out 1; have hs2 : wx.cell? ⟨g7, 2, none⟩ = some (.int .i64 0) := (blk_cell HBg7.out 2).trans rfl; have hf2 : wx.frozen? ⟨g7, 2, none⟩ = false := blk_frozen HBg7.out 2; refine skipL_ (w1 := put3 wx g7 (3, e.f3, c)) rfl rfl (by go_simp; rfl) ?_; clear hs0 hs1 hs2 hf0 hf1 hf2; have HPg7 := Aside0.mk (put3_blk (k := (3, e.f3, c)) HBg7.out); have HQg7 := Aside0.mk (put3_below wx g7 (3, e.f3, c)); generalize put3 wx g7 (3, e.f3, c) = wd at HPg7 HQg7 ⊢)))
      have h_ab := HQg7.out.below HLg7.out (Nat.le_of_eq HNg7.out.symm)
      have HDd := Aside0.mk (HDb.out.below h_ab)
      have HFd : Aside0 (Fr g gk gc gl w wd) := ⟨HFb.out.trans (Fr.of_below h_ab)⟩
      have HZg4_d : Aside0 (KeyAt wd g4 (0, 0, 0)) := ⟨(h_ab.block g4 (blk_lt HZg4_b.out)).trans HZg4_b.out⟩
      have HXg7 : Aside0 (g7 ≠ g ∧ g7 ≠ gk ∧ g7 ≠ gc ∧ g7 ≠ gl) := ⟨by have := HDb.out.lt; have := HNg7.out; omega⟩
      clear h_ab HNg7 HBg7 HLg7 HQg7
      have HNg7 := HXg7
      have HZg7_d := HPg7
      clear HXg7 HPg7
      have t0 : wd.drew.cell? ⟨g7, 2, none⟩ = some (.int .i64 c) := (blk_cell (w := wd.drew) HZg7_d.out 2).trans rfl
      refine start_ (n := 11) (S := fun w' => w'.cell? ⟨g7, 2, none⟩ = some (.int .i64 c)) (ds := [10]) (bl 11 0) (by kernel_rfl) rfl rfl (t0) (fun hHeld => ?_)
      refine pure_ (i := 0) (N := some 47) (v := ?_) (a' := ?_) (bl 11 1) rfl rfl (by kernel_rfl) (fun _ _ _ h => h) (Or.inl ⟨by rfl, ?_⟩) ?_ ?_
      rotate_left
      · intro w'
        go_simp
        with_reducible rfl
      rotate_left
      · simp only [Act.put, List.setIfInBounds_toArray, List.set_cons_zero, List.set_cons_succ, i64_w, i32_w]
        rfl
      refine pure_ (i := 1) (N := some 48) (v := ?_) (a' := ?_) (bl 11 3) rfl rfl (by kernel_rfl) (fun _ _ _ h => h) (Or.inl ⟨by rfl, ?_⟩) ?_ ?_
      rotate_left
      · intro w'
        go_simp
        with_reducible rfl
      rotate_left
      · simp only [Act.put, List.setIfInBounds_toArray, List.set_cons_zero, List.set_cons_succ, i64_w, i32_w]
        rfl
      refine pure_ (i := 2) (N := some 49) (v := ?_) (a' := ?_) (bl 11 7) rfl rfl (by kernel_rfl) (fun _ _ _ h => h) (Or.inl ⟨by rfl, ?_⟩) ?_ ?_
      rotate_left
      · intro w'
        go_simp
        with_reducible rfl
      rotate_left
      · simp only [Act.put, List.setIfInBounds_toArray, List.set_cons_zero, List.set_cons_succ, i64_w, i32_w]
        rfl
      refine pure_ (i := 3) (N := some 50) (v := ?_) (a' := ?_) (bl 11 15) rfl rfl (by kernel_rfl) (fun _ _ _ h => h) (Or.inl ⟨by rfl, ?_⟩) ?_ ?_
      rotate_left
      · intro w'
        go_simp
        with_reducible rfl
      rotate_left
      · simp only [Act.put, List.setIfInBounds_toArray, List.set_cons_zero, List.set_cons_succ, i64_w, i32_w]
        rfl
      refine pure_ (i := 5) (N := some 52) (v := ?_) (a' := ?_) (bl 11 47) rfl rfl (by kernel_rfl) (fun _ _ _ h => h) (Or.inl ⟨by rfl, ?_⟩) ?_ ?_
      rotate_left
      · intro w'
        go_simp
        with_reducible rfl
      rotate_left
      · simp only [Act.put, List.setIfInBounds_toArray, List.set_cons_zero, List.set_cons_succ, i64_w, i32_w]
        rfl
      refine pure_ (i := 6) (N := some 53) (v := ?_) (a' := ?_) (bl 11 111) rfl rfl (by kernel_rfl) (fun _ _ _ h => h) (Or.inl ⟨by rfl, ?_⟩) ?_ ?_
      rotate_left
      · intro w'
        go_simp
        with_reducible rfl
      rotate_left
      · simp only [Act.put, List.setIfInBounds_toArray, List.set_cons_zero, List.set_cons_succ, i64_w, i32_w]
        rfl
      refine take_ (i := 4) (N := some 51) (v := ?_) (a' := ?_) (bl 11 127) rfl rfl (by kernel_rfl) (fun _ _ _ h => h) (Or.inl ⟨by rfl, ?_⟩) hHeld ?_ ?_
      rotate_left
      · intro w' s0
        go_simp
        with_reducible rfl
      rotate_left
      · simp only [Act.put, List.setIfInBounds_toArray, List.set_cons_zero, List.set_cons_succ, i64_w, i32_w]
        rfl
      refine one_ (i := 7) (N := some 54) (bl 11 255) rfl rfl (by kernel_rfl) (by decide) (fun K hK => ?_)
      refine goes_ Try.func54 (by kernel_rfl) rfl #[.pointer (some ⟨g, 0, none⟩), .int .i64 e.f3] (by rfl) rfl rfl (by simp only [List.map_toArray, List.map_cons, List.map_nil]; rfl) ?_
      with_reducible refine (room_any (HDd.out.below (below_drew (Below.refl _ _))) A3 c3 l3 HP.out (HC3.out _ (HFd.out.trans (Fr.of_below (below_drew (Below.refl _ _))))) e.f3).mono ?_
      rintro er wr ⟨rfl, rfl⟩
      refine ⟨_, rfl, ?_⟩
      refine hK.out _ _ (hHeld) (fun hHeld => ?_)
      clear hK K
      refine norm_ (a' := ?_) ?_ ?_
      rotate_left
      · show Act.put _ (some 54) _ = _
        simp only [Act.put, List.setIfInBounds_toArray, List.set_cons_zero, List.set_cons_succ, i64_w, i32_w]
        rfl
      refine pure_ (i := 8) (N := some 55) (v := ?_) (a' := ?_) (bl 11 511) rfl rfl (by kernel_rfl) (fun _ _ _ h => h) (Or.inl ⟨by rfl, ?_⟩) ?_ ?_
      rotate_left
      · intro w'
        go_simp
        with_reducible rfl
      rotate_left
      · simp only [Act.put, List.setIfInBounds_toArray, List.set_cons_zero, List.set_cons_succ, i64_w, i32_w]
        rfl
      refine pure_ (i := 9) (N := some 56) (v := ?_) (a' := ?_) (bl 11 1023) rfl rfl (by kernel_rfl) (fun _ _ _ h => h) (Or.inl ⟨by rfl, ?_⟩) ?_ ?_
      rotate_left
      · intro w'
        go_simp
        with_reducible rfl
      rotate_left
      · simp only [Act.put, List.setIfInBounds_toArray, List.set_cons_zero, List.set_cons_succ, i64_w, i32_w]
        rfl
      refine last_ (i := 10) (N := some 57) (bl 11 2047) rfl rfl (by kernel_rfl) (by decide) (fun K hK => ?_)
      refine goes_ Try.func52 (by kernel_rfl) rfl #[.pointer (some ⟨g, 0, none⟩), .int .i64 (t : Int), .agg #[.int .u8 4, .int .i64 e.f3, .int .i64 (wrap64 (c - roomL l3 e.f3))]] (by rfl) rfl rfl (by simp only [List.map_toArray, List.map_cons, List.map_nil]; rfl) ?_
      with_reducible refine (learn_any (HDd.out.below (below_drew (Below.refl _ _))) (HO.out.count 3 e.f3) t HT.out (4, e.f3, wrap64 (c - roomL l3 e.f3))).mono ?_
      rintro ef wf ⟨rfl, hf, vf, hd⟩
      refine ⟨_, rfl, ?_⟩
      have HDf := Aside0.mk hd
      have HFf := Aside0.mk ((HFd.out.trans (Fr.of_below (below_drew (Below.refl _ _)))).trans hf)
      have HZg4_f : Aside0 (KeyAt wf g4 (0, 0, 0)) := ⟨(hf.block g4 (blk_lt (w := wd.drew) HZg4_d.out) HNg4.out.1 HNg4.out.2.1 HNg4.out.2.2.1 HNg4.out.2.2.2).trans HZg4_d.out⟩
      have HZg7_f : Aside0 (KeyAt wf g7 (3, e.f3, c)) := ⟨(hf.block g7 (blk_lt (w := wd.drew) HZg7_d.out) HNg7.out.1 HNg7.out.2.1 HNg7.out.2.2.1 HNg7.out.2.2.2).trans HZg7_d.out⟩
      clear hf hd
      refine hK.out _ _ ?_
      clear hK K
      refine norm_ (a' := ?_) ?_ ?_
      rotate_left
      · show Act.put _ (some 57) _ = _
        simp only [Act.put, List.setIfInBounds_toArray, List.set_cons_zero, List.set_cons_succ, i64_w, i32_w]
        rfl
      refine done_ (by kernel_rfl) ?_
      clear t0 u2 u5
      have k0 : wf.cell? ⟨g7, 0, none⟩ = some (.int .u8 3) := (blk_cell HZg7_f.out 0).trans rfl
      have k1 : wf.cell? ⟨g7, 1, none⟩ = some (.int .i64 e.f3) := (blk_cell HZg7_f.out 1).trans rfl
      have k2 : wf.cell? ⟨g7, 2, none⟩ = some (.int .i64 c) := (blk_cell HZg7_f.out 2).trans rfl
      go_wp2_with (first | ((with_reducible refine gate_store (t := 89) (p := 4) rfl ?_); (have hs0 : wf.cell? ⟨g4, 0, none⟩ = some (.int .u8 0) := (blk_cell HZg4_f.out 0).trans rfl; have hf0 : wf.frozen? ⟨g4, 0, none⟩ = false := blk_frozen HZg4_f.out 0; have hs1 : wf.cell? ⟨g4, 1, none⟩ = some (.int .i64 0) := (blk_cell HZg4_f.out 1).trans rfl; have hf1 : wf.frozen? ⟨g4, 1, none⟩ = false := blk_frozen HZg4_f.out 1; have hs2 : wf.cell? ⟨g4, 2, none⟩ = some (.int .i64 0) := (blk_cell HZg4_f.out 2).trans rfl; have hf2 : wf.frozen? ⟨g4, 2, none⟩ = false := blk_frozen HZg4_f.out 2; refine skipL_ (w1 := put3 wf g4 (3, e.f3, c)) rfl rfl (by go_simp; rfl) ?_; clear hs0 hs1 hs2 hf0 hf1 hf2; have HPg4 := Aside0.mk (put3_blk (k := (3, e.f3, c)) HZg4_f.out); have HQg4 := Aside0.mk (put3_below wf g4 (3, e.f3, c)); generalize put3 wf g4 (3, e.f3, c) = wz at HPg4 HQg4 ⊢)))
      have HFz : Aside0 (Fr g gk gc gl w wz) := ⟨HFf.out.then6 HQg4.out HSZ.out⟩
      have HDz := Aside0.mk (HDf.out.only HQg4.out HZg4_f.out (by decide) (by decide) (by decide))
      have r0 : wz.cell? ⟨g4, 0, none⟩ = some (.int .u8 3) := (blk_cell HPg4.out 0).trans rfl
      have r1 : wz.cell? ⟨g4, 1, none⟩ = some (.int .i64 e.f3) := (blk_cell HPg4.out 1).trans rfl
      have r2 : wz.cell? ⟨g4, 2, none⟩ = some (.int .i64 c) := (blk_cell HPg4.out 2).trans rfl
      refine bodyPost_ret (v := .agg #[.int .u8 3, .int .i64 e.f3, .int .i64 c]) (by simp [results, Try.results38, go_sem, r0, r1, r2]) rfl ?_
      rw [← HR2.out]
      exact ⟨_, rfl, HFz.out, HDz.out⟩
     | false =>
      cases h21 : e.f2 == 21 with
      | true =>
       cases m1 : e.f5 == 1 with
       | true =>
        obtain ⟨c, hc⟩ : ∃ c, σ.ct (4, e.f3, 0) = c := ⟨_, rfl⟩
        have hc0 := HO.out.ct (4, e.f3, 0)
        rw [hc] at hc0
        have q0 : (0 : Int) ≤ c := hc0.1
        have q1 : c ≤ 1000000000 := by have := HNN.out; omega
        have HC := Aside0.mk hc
        clear hc hc0
        have hr2 := HR.out
        simp only [Det.hear, h13, h15, h17, h19, h20, h21, m1, HC.out, HET.out, Int.toNat_natCast, Bool.or_true, Bool.or_false, Bool.true_or, Bool.false_or, if_true, if_false, reduceIte, Bool.false_eq_true] at hr2
        have HR2 := Aside0.mk hr2
        clear hr2
        go_wp2_with (first | ((with_reducible refine gate_callee (f := 53) rfl ?_); (try (refine gate_guard (by rfl) ?_; dsimp only)); (refine goesL_ (some 68) rfl rfl Try.func53 (by kernel_rfl) rfl #[.pointer (some ⟨g, 0, none⟩), .int .u8 4, .int .i64 e.f3] rfl (by simp [Act.eval]) ?_; refine (next_any HDa.out HO.out HNN.out 4 e.f3).mono ?_; rintro eb wb ⟨rfl, hf, hd⟩; rw [HC.out]; have HDb := Aside0.mk hd; have HFb := Aside0.mk (HFa.out.trans hf); have HZg4_b : Aside0 (KeyAt wb g4 (0, 0, 0)) := ⟨(hf.block g4 (blk_lt HZg4_a.out) HNg4.out.1 HNg4.out.2.1 HNg4.out.2.2.1 HNg4.out.2.2.2).trans HZg4_a.out⟩; clear hf hd; refine ⟨_, rfl, ?_⟩)) | ((with_reducible refine gate_dst (N := 8) rfl ?_); refine box_event ?hg (N := 8) ?hd (cs := #[.int .u8 0, .int .i64 0, .int .i64 0]) (t := 89) ?hr ?_; (case hd => rfl); (case hg => rfl); (case hr => first | (go_simp; done) | (go_simp; rfl)); intro g8 hg8_ wx hbg8_ hlg8_; have HNg8 := Aside0.mk hg8_; have HBg8 := Aside0.mk hbg8_; have HLg8 := Aside0.mk hlg8_; clear hg8_ hbg8_ hlg8_) | ((with_reducible refine gate_store (t := 89) (p := 8) rfl ?_); (have hs0 : wx.cell? ⟨g8, 0, none⟩ = some (.int .u8 0) := (blk_cell HBg8.out 0).trans rfl; have hf0 : wx.frozen? ⟨g8, 0, none⟩ = false := blk_frozen HBg8.out 0; have hs1 : wx.cell? ⟨g8, 1, none⟩ = some (.int .i64 0) := (blk_cell HBg8.out 1).trans rfl; have hf1 : wx.frozen? ⟨g8, 1, none⟩ = false := blk_frozen HBg8.out 1; have hs2 : wx.cell? ⟨g8, 2, none⟩ = some (.int .i64 0) := (blk_cell HBg8.out 2).trans rfl; have hf2 : wx.frozen? ⟨g8, 2, none⟩ = false := blk_frozen HBg8.out 2; refine skipL_ (w1 := put3 wx g8 (4, e.f3, c)) rfl rfl (by go_simp; rfl) ?_; clear hs0 hs1 hs2 hf0 hf1 hf2; have HPg8 := Aside0.mk (put3_blk (k := (4, e.f3, c)) HBg8.out); have HQg8 := Aside0.mk (put3_below wx g8 (4, e.f3, c)); generalize put3 wx g8 (4, e.f3, c) = wd at HPg8 HQg8 ⊢; have h_ab := HQg8.out.below HLg8.out (Nat.le_of_eq HNg8.out.symm); have HDd := Aside0.mk (HDb.out.below h_ab); have HFd : Aside0 (Fr g gk gc gl w wd) := ⟨HFb.out.trans (Fr.of_below h_ab)⟩; have HZg4_d : Aside0 (KeyAt wd g4 (0, 0, 0)) := ⟨(h_ab.block g4 (blk_lt HZg4_b.out)).trans HZg4_b.out⟩; have HXg8 : Aside0 (g8 ≠ g ∧ g8 ≠ gk ∧ g8 ≠ gc ∧ g8 ≠ gl) := ⟨by have := HDb.out.lt; have := HNg8.out; omega⟩; clear h_ab HNg8 HBg8 HLg8 HQg8; have HNg8 := HXg8; have HZg8_d := HPg8; clear HXg8 HPg8; have k2 : wd.cell? ⟨g8, 2, none⟩ = some (.int .i64 c) := (blk_cell HZg8_d.out 2).trans rfl)) | ((with_reducible refine gate_callee (f := 52) rfl ?_); (try (refine gate_guard (by rfl) ?_; dsimp only)); (refine goesL_ (some 75) rfl rfl Try.func52 (by kernel_rfl) rfl #[.pointer (some ⟨g, 0, none⟩), .int .i64 (t : Int), .agg #[.int .u8 3, .int .i64 e.f3, .int .i64 c]] rfl (by simp [Act.eval]) ?_; refine (learn_any HDd.out (HO.out.count 4 e.f3) t HT.out (3, e.f3, c)).mono ?_; rintro ef wf ⟨rfl, hf, vf, hd⟩; have HDf := Aside0.mk hd; have HFf := Aside0.mk (HFd.out.trans hf); have HZg4_f : Aside0 (KeyAt wf g4 (0, 0, 0)) := ⟨(hf.block g4 (blk_lt HZg4_d.out) HNg4.out.1 HNg4.out.2.1 HNg4.out.2.2.1 HNg4.out.2.2.2).trans HZg4_d.out⟩; have HZg8_f : Aside0 (KeyAt wf g8 (4, e.f3, c)) := ⟨(hf.block g8 (blk_lt HZg8_d.out) HNg8.out.1 HNg8.out.2.1 HNg8.out.2.2.1 HNg8.out.2.2.2).trans HZg8_d.out⟩; clear hf hd; have k0 : wf.cell? ⟨g8, 0, none⟩ = some (.int .u8 4) := (blk_cell HZg8_f.out 0).trans rfl; have k1 : wf.cell? ⟨g8, 1, none⟩ = some (.int .i64 e.f3) := (blk_cell HZg8_f.out 1).trans rfl; clear k2; have k2 : wf.cell? ⟨g8, 2, none⟩ = some (.int .i64 c) := (blk_cell HZg8_f.out 2).trans rfl; refine ⟨_, rfl, ?_⟩)) | ((with_reducible refine gate_store (t := 89) (p := 4) rfl ?_); (have hs0 : wf.cell? ⟨g4, 0, none⟩ = some (.int .u8 0) := (blk_cell HZg4_f.out 0).trans rfl; have hf0 : wf.frozen? ⟨g4, 0, none⟩ = false := blk_frozen HZg4_f.out 0; have hs1 : wf.cell? ⟨g4, 1, none⟩ = some (.int .i64 0) := (blk_cell HZg4_f.out 1).trans rfl; have hf1 : wf.frozen? ⟨g4, 1, none⟩ = false := blk_frozen HZg4_f.out 1; have hs2 : wf.cell? ⟨g4, 2, none⟩ = some (.int .i64 0) := (blk_cell HZg4_f.out 2).trans rfl; have hf2 : wf.frozen? ⟨g4, 2, none⟩ = false := blk_frozen HZg4_f.out 2; refine skipL_ (w1 := put3 wf g4 (4, e.f3, c)) rfl rfl (by go_simp; rfl) ?_; clear hs0 hs1 hs2 hf0 hf1 hf2; have HPg4 := Aside0.mk (put3_blk (k := (4, e.f3, c)) HZg4_f.out); have HQg4 := Aside0.mk (put3_below wf g4 (4, e.f3, c)); generalize put3 wf g4 (4, e.f3, c) = wz at HPg4 HQg4 ⊢)))
        have HFz : Aside0 (Fr g gk gc gl w wz) := ⟨HFf.out.then6 HQg4.out HSZ.out⟩
        have HDz := Aside0.mk (HDf.out.only HQg4.out HZg4_f.out (by decide) (by decide) (by decide))
        have r0 : wz.cell? ⟨g4, 0, none⟩ = some (.int .u8 4) := (blk_cell HPg4.out 0).trans rfl
        have r1 : wz.cell? ⟨g4, 1, none⟩ = some (.int .i64 e.f3) := (blk_cell HPg4.out 1).trans rfl
        have r2 : wz.cell? ⟨g4, 2, none⟩ = some (.int .i64 c) := (blk_cell HPg4.out 2).trans rfl
        refine bodyPost_ret (v := .agg #[.int .u8 4, .int .i64 e.f3, .int .i64 c]) (by simp [results, Try.results38, go_sem, r0, r1, r2]) rfl ?_
        rw [← HR2.out]
        exact ⟨_, rfl, HFz.out, HDz.out⟩
       | false =>
        cases m2 : e.f5 == 2 with
        | true =>
         have hr2 := HR.out
         simp only [Det.hear, h13, h15, h17, h19, h20, h21, m1, m2, HET.out, Int.toNat_natCast, Bool.or_true, Bool.or_false, Bool.true_or, Bool.false_or, if_true, if_false, reduceIte, Bool.false_eq_true] at hr2
         have HR2 := Aside0.mk hr2
         clear hr2
         go_wp2_with (first | ((with_reducible refine gate_callee (f := 52) rfl ?_); (try (refine gate_guard (by rfl) ?_; dsimp only)); (refine goesL_ (some 83) rfl rfl Try.func52 (by kernel_rfl) rfl #[.pointer (some ⟨g, 0, none⟩), .int .i64 (t : Int), .agg #[.int .u8 5, .int .i64 e.f3, .int .i64 0]] rfl (by simp [Act.eval]) ?_; refine (learn_any HDa.out HO.out t HT.out (5, e.f3, 0)).mono ?_; rintro eb wb ⟨rfl, hf, vb, hd⟩; have HDb := Aside0.mk hd; have HFb := Aside0.mk (HFa.out.trans hf); have HZg4_b : Aside0 (KeyAt wb g4 (0, 0, 0)) := ⟨(hf.block g4 (blk_lt HZg4_a.out) HNg4.out.1 HNg4.out.2.1 HNg4.out.2.2.1 HNg4.out.2.2.2).trans HZg4_a.out⟩; clear hf hd; refine ⟨_, rfl, ?_⟩)) | ((with_reducible refine gate_store (t := 89) (p := 4) rfl ?_); (have hs0 : wb.cell? ⟨g4, 0, none⟩ = some (.int .u8 0) := (blk_cell HZg4_b.out 0).trans rfl; have hf0 : wb.frozen? ⟨g4, 0, none⟩ = false := blk_frozen HZg4_b.out 0; have hs1 : wb.cell? ⟨g4, 1, none⟩ = some (.int .i64 0) := (blk_cell HZg4_b.out 1).trans rfl; have hf1 : wb.frozen? ⟨g4, 1, none⟩ = false := blk_frozen HZg4_b.out 1; have hs2 : wb.cell? ⟨g4, 2, none⟩ = some (.int .i64 0) := (blk_cell HZg4_b.out 2).trans rfl; have hf2 : wb.frozen? ⟨g4, 2, none⟩ = false := blk_frozen HZg4_b.out 2; refine skipL_ (w1 := put3 wb g4 (0, 0, 0)) rfl rfl (by go_simp; rfl) ?_; clear hs0 hs1 hs2 hf0 hf1 hf2; have HPg4 := Aside0.mk (put3_blk (k := (0, 0, 0)) HZg4_b.out); have HQg4 := Aside0.mk (put3_below wb g4 (0, 0, 0)); generalize put3 wb g4 (0, 0, 0) = wz at HPg4 HQg4 ⊢)))
         have HFz : Aside0 (Fr g gk gc gl w wz) := ⟨HFb.out.then6 HQg4.out HSZ.out⟩
         have HDz := Aside0.mk (HDb.out.only HQg4.out HZg4_b.out (by decide) (by decide) (by decide))
         have r0 : wz.cell? ⟨g4, 0, none⟩ = some (.int .u8 0) := (blk_cell HPg4.out 0).trans rfl
         have r1 : wz.cell? ⟨g4, 1, none⟩ = some (.int .i64 0) := (blk_cell HPg4.out 1).trans rfl
         have r2 : wz.cell? ⟨g4, 2, none⟩ = some (.int .i64 0) := (blk_cell HPg4.out 2).trans rfl
         refine bodyPost_ret (v := .agg #[.int .u8 0, .int .i64 0, .int .i64 0]) (by simp [results, Try.results38, go_sem, r0, r1, r2]) rfl ?_
         rw [← HR2.out]
         exact ⟨_, rfl, HFz.out, HDz.out⟩
        | false =>
         have hr2 := HR.out
         simp only [Det.hear, h13, h15, h17, h19, h20, h21, m1, m2, HET.out, Int.toNat_natCast, Bool.or_true, Bool.or_false, Bool.true_or, Bool.false_or, if_true, if_false, reduceIte, Bool.false_eq_true] at hr2
         have HR2 := Aside0.mk hr2
         clear hr2
         go_wp2_with (first | ((with_reducible refine gate_store (t := 89) (p := 4) rfl ?_); (have hs0 : wa.cell? ⟨g4, 0, none⟩ = some (.int .u8 0) := (blk_cell HZg4_a.out 0).trans rfl; have hf0 : wa.frozen? ⟨g4, 0, none⟩ = false := blk_frozen HZg4_a.out 0; have hs1 : wa.cell? ⟨g4, 1, none⟩ = some (.int .i64 0) := (blk_cell HZg4_a.out 1).trans rfl; have hf1 : wa.frozen? ⟨g4, 1, none⟩ = false := blk_frozen HZg4_a.out 1; have hs2 : wa.cell? ⟨g4, 2, none⟩ = some (.int .i64 0) := (blk_cell HZg4_a.out 2).trans rfl; have hf2 : wa.frozen? ⟨g4, 2, none⟩ = false := blk_frozen HZg4_a.out 2; refine skipL_ (w1 := put3 wa g4 (0, 0, 0)) rfl rfl (by go_simp; rfl) ?_; clear hs0 hs1 hs2 hf0 hf1 hf2; have HPg4 := Aside0.mk (put3_blk (k := (0, 0, 0)) HZg4_a.out); have HQg4 := Aside0.mk (put3_below wa g4 (0, 0, 0)); generalize put3 wa g4 (0, 0, 0) = wz at HPg4 HQg4 ⊢)))
         have HFz : Aside0 (Fr g gk gc gl w wz) := ⟨HFa.out.then6 HQg4.out HSZ.out⟩
         have HDz := Aside0.mk (HDa.out.only HQg4.out HZg4_a.out (by decide) (by decide) (by decide))
         have r0 : wz.cell? ⟨g4, 0, none⟩ = some (.int .u8 0) := (blk_cell HPg4.out 0).trans rfl
         have r1 : wz.cell? ⟨g4, 1, none⟩ = some (.int .i64 0) := (blk_cell HPg4.out 1).trans rfl
         have r2 : wz.cell? ⟨g4, 2, none⟩ = some (.int .i64 0) := (blk_cell HPg4.out 2).trans rfl
         refine bodyPost_ret (v := .agg #[.int .u8 0, .int .i64 0, .int .i64 0]) (by simp [results, Try.results38, go_sem, r0, r1, r2]) rfl ?_
         rw [← HR2.out]
         exact ⟨_, rfl, HFz.out, HDz.out⟩
      | false =>
       cases h22 : e.f2 == 22 with
       | true =>
        cases m1 : e.f5 == 1 with
        | true =>
         obtain ⟨c, hc⟩ : ∃ c, σ.ct (4, e.f3, 0) = c := ⟨_, rfl⟩
         have hc0 := HO.out.ct (4, e.f3, 0)
         rw [hc] at hc0
         have q0 : (0 : Int) ≤ c := hc0.1
         have q1 : c ≤ 1000000000 := by have := HNN.out; omega
         have HC := Aside0.mk hc
         clear hc hc0
         have hr2 := HR.out
         simp only [Det.hear, h13, h15, h17, h19, h20, h21, h22, m1, HC.out, HET.out, Int.toNat_natCast, Bool.or_true, Bool.or_false, Bool.true_or, Bool.false_or, if_true, if_false, reduceIte, Bool.false_eq_true] at hr2
         have HR2 := Aside0.mk hr2
         clear hr2
         go_wp2_with (first | ((with_reducible refine gate_callee (f := 53) rfl ?_); (try (refine gate_guard (by rfl) ?_; dsimp only)); (refine goesL_ (some 68) rfl rfl Try.func53 (by kernel_rfl) rfl #[.pointer (some ⟨g, 0, none⟩), .int .u8 4, .int .i64 e.f3] rfl (by simp [Act.eval]) ?_; refine (next_any HDa.out HO.out HNN.out 4 e.f3).mono ?_; rintro eb wb ⟨rfl, hf, hd⟩; rw [HC.out]; have HDb := Aside0.mk hd; have HFb := Aside0.mk (HFa.out.trans hf); have HZg4_b : Aside0 (KeyAt wb g4 (0, 0, 0)) := ⟨(hf.block g4 (blk_lt HZg4_a.out) HNg4.out.1 HNg4.out.2.1 HNg4.out.2.2.1 HNg4.out.2.2.2).trans HZg4_a.out⟩; clear hf hd; refine ⟨_, rfl, ?_⟩)) | ((with_reducible refine gate_dst (N := 8) rfl ?_); refine box_event ?hg (N := 8) ?hd (cs := #[.int .u8 0, .int .i64 0, .int .i64 0]) (t := 89) ?hr ?_; (case hd => rfl); (case hg => rfl); (case hr => first | (go_simp; done) | (go_simp; rfl)); intro g8 hg8_ wx hbg8_ hlg8_; have HNg8 := Aside0.mk hg8_; have HBg8 := Aside0.mk hbg8_; have HLg8 := Aside0.mk hlg8_; clear hg8_ hbg8_ hlg8_) | ((with_reducible refine gate_store (t := 89) (p := 8) rfl ?_); (have hs0 : wx.cell? ⟨g8, 0, none⟩ = some (.int .u8 0) := (blk_cell HBg8.out 0).trans rfl; have hf0 : wx.frozen? ⟨g8, 0, none⟩ = false := blk_frozen HBg8.out 0; have hs1 : wx.cell? ⟨g8, 1, none⟩ = some (.int .i64 0) := (blk_cell HBg8.out 1).trans rfl; have hf1 : wx.frozen? ⟨g8, 1, none⟩ = false := blk_frozen HBg8.out 1; have hs2 : wx.cell? ⟨g8, 2, none⟩ = some (.int .i64 0) := (blk_cell HBg8.out 2).trans rfl; have hf2 : wx.frozen? ⟨g8, 2, none⟩ = false := blk_frozen HBg8.out 2; refine skipL_ (w1 := put3 wx g8 (4, e.f3, c)) rfl rfl (by go_simp; rfl) ?_; clear hs0 hs1 hs2 hf0 hf1 hf2; have HPg8 := Aside0.mk (put3_blk (k := (4, e.f3, c)) HBg8.out); have HQg8 := Aside0.mk (put3_below wx g8 (4, e.f3, c)); generalize put3 wx g8 (4, e.f3, c) = wd at HPg8 HQg8 ⊢; have h_ab := HQg8.out.below HLg8.out (Nat.le_of_eq HNg8.out.symm); have HDd := Aside0.mk (HDb.out.below h_ab); have HFd : Aside0 (Fr g gk gc gl w wd) := ⟨HFb.out.trans (Fr.of_below h_ab)⟩; have HZg4_d : Aside0 (KeyAt wd g4 (0, 0, 0)) := ⟨(h_ab.block g4 (blk_lt HZg4_b.out)).trans HZg4_b.out⟩; have HXg8 : Aside0 (g8 ≠ g ∧ g8 ≠ gk ∧ g8 ≠ gc ∧ g8 ≠ gl) := ⟨by have := HDb.out.lt; have := HNg8.out; omega⟩; clear h_ab HNg8 HBg8 HLg8 HQg8; have HNg8 := HXg8; have HZg8_d := HPg8; clear HXg8 HPg8; have k2 : wd.cell? ⟨g8, 2, none⟩ = some (.int .i64 c) := (blk_cell HZg8_d.out 2).trans rfl)) | ((with_reducible refine gate_callee (f := 52) rfl ?_); (try (refine gate_guard (by rfl) ?_; dsimp only)); (refine goesL_ (some 75) rfl rfl Try.func52 (by kernel_rfl) rfl #[.pointer (some ⟨g, 0, none⟩), .int .i64 (t : Int), .agg #[.int .u8 3, .int .i64 e.f3, .int .i64 c]] rfl (by simp [Act.eval]) ?_; refine (learn_any HDd.out (HO.out.count 4 e.f3) t HT.out (3, e.f3, c)).mono ?_; rintro ef wf ⟨rfl, hf, vf, hd⟩; have HDf := Aside0.mk hd; have HFf := Aside0.mk (HFd.out.trans hf); have HZg4_f : Aside0 (KeyAt wf g4 (0, 0, 0)) := ⟨(hf.block g4 (blk_lt HZg4_d.out) HNg4.out.1 HNg4.out.2.1 HNg4.out.2.2.1 HNg4.out.2.2.2).trans HZg4_d.out⟩; have HZg8_f : Aside0 (KeyAt wf g8 (4, e.f3, c)) := ⟨(hf.block g8 (blk_lt HZg8_d.out) HNg8.out.1 HNg8.out.2.1 HNg8.out.2.2.1 HNg8.out.2.2.2).trans HZg8_d.out⟩; clear hf hd; have k0 : wf.cell? ⟨g8, 0, none⟩ = some (.int .u8 4) := (blk_cell HZg8_f.out 0).trans rfl; have k1 : wf.cell? ⟨g8, 1, none⟩ = some (.int .i64 e.f3) := (blk_cell HZg8_f.out 1).trans rfl; clear k2; have k2 : wf.cell? ⟨g8, 2, none⟩ = some (.int .i64 c) := (blk_cell HZg8_f.out 2).trans rfl; refine ⟨_, rfl, ?_⟩)) | ((with_reducible refine gate_store (t := 89) (p := 4) rfl ?_); (have hs0 : wf.cell? ⟨g4, 0, none⟩ = some (.int .u8 0) := (blk_cell HZg4_f.out 0).trans rfl; have hf0 : wf.frozen? ⟨g4, 0, none⟩ = false := blk_frozen HZg4_f.out 0; have hs1 : wf.cell? ⟨g4, 1, none⟩ = some (.int .i64 0) := (blk_cell HZg4_f.out 1).trans rfl; have hf1 : wf.frozen? ⟨g4, 1, none⟩ = false := blk_frozen HZg4_f.out 1; have hs2 : wf.cell? ⟨g4, 2, none⟩ = some (.int .i64 0) := (blk_cell HZg4_f.out 2).trans rfl; have hf2 : wf.frozen? ⟨g4, 2, none⟩ = false := blk_frozen HZg4_f.out 2; refine skipL_ (w1 := put3 wf g4 (4, e.f3, c)) rfl rfl (by go_simp; rfl) ?_; clear hs0 hs1 hs2 hf0 hf1 hf2; have HPg4 := Aside0.mk (put3_blk (k := (4, e.f3, c)) HZg4_f.out); have HQg4 := Aside0.mk (put3_below wf g4 (4, e.f3, c)); generalize put3 wf g4 (4, e.f3, c) = wz at HPg4 HQg4 ⊢)))
         have HFz : Aside0 (Fr g gk gc gl w wz) := ⟨HFf.out.then6 HQg4.out HSZ.out⟩
         have HDz := Aside0.mk (HDf.out.only HQg4.out HZg4_f.out (by decide) (by decide) (by decide))
         have r0 : wz.cell? ⟨g4, 0, none⟩ = some (.int .u8 4) := (blk_cell HPg4.out 0).trans rfl
         have r1 : wz.cell? ⟨g4, 1, none⟩ = some (.int .i64 e.f3) := (blk_cell HPg4.out 1).trans rfl
         have r2 : wz.cell? ⟨g4, 2, none⟩ = some (.int .i64 c) := (blk_cell HPg4.out 2).trans rfl
         refine bodyPost_ret (v := .agg #[.int .u8 4, .int .i64 e.f3, .int .i64 c]) (by simp [results, Try.results38, go_sem, r0, r1, r2]) rfl ?_
         rw [← HR2.out]
         exact ⟨_, rfl, HFz.out, HDz.out⟩
        | false =>
         cases m2 : e.f5 == 2 with
         | true =>
          have hr2 := HR.out
          simp only [Det.hear, h13, h15, h17, h19, h20, h21, h22, m1, m2, HET.out, Int.toNat_natCast, Bool.or_true, Bool.or_false, Bool.true_or, Bool.false_or, if_true, if_false, reduceIte, Bool.false_eq_true] at hr2
          have HR2 := Aside0.mk hr2
          clear hr2
          go_wp2_with (first | ((with_reducible refine gate_callee (f := 52) rfl ?_); (try (refine gate_guard (by rfl) ?_; dsimp only)); (refine goesL_ (some 83) rfl rfl Try.func52 (by kernel_rfl) rfl #[.pointer (some ⟨g, 0, none⟩), .int .i64 (t : Int), .agg #[.int .u8 5, .int .i64 e.f3, .int .i64 0]] rfl (by simp [Act.eval]) ?_; refine (learn_any HDa.out HO.out t HT.out (5, e.f3, 0)).mono ?_; rintro eb wb ⟨rfl, hf, vb, hd⟩; have HDb := Aside0.mk hd; have HFb := Aside0.mk (HFa.out.trans hf); have HZg4_b : Aside0 (KeyAt wb g4 (0, 0, 0)) := ⟨(hf.block g4 (blk_lt HZg4_a.out) HNg4.out.1 HNg4.out.2.1 HNg4.out.2.2.1 HNg4.out.2.2.2).trans HZg4_a.out⟩; clear hf hd; refine ⟨_, rfl, ?_⟩)) | ((with_reducible refine gate_store (t := 89) (p := 4) rfl ?_); (have hs0 : wb.cell? ⟨g4, 0, none⟩ = some (.int .u8 0) := (blk_cell HZg4_b.out 0).trans rfl; have hf0 : wb.frozen? ⟨g4, 0, none⟩ = false := blk_frozen HZg4_b.out 0; have hs1 : wb.cell? ⟨g4, 1, none⟩ = some (.int .i64 0) := (blk_cell HZg4_b.out 1).trans rfl; have hf1 : wb.frozen? ⟨g4, 1, none⟩ = false := blk_frozen HZg4_b.out 1; have hs2 : wb.cell? ⟨g4, 2, none⟩ = some (.int .i64 0) := (blk_cell HZg4_b.out 2).trans rfl; have hf2 : wb.frozen? ⟨g4, 2, none⟩ = false := blk_frozen HZg4_b.out 2; refine skipL_ (w1 := put3 wb g4 (0, 0, 0)) rfl rfl (by go_simp; rfl) ?_; clear hs0 hs1 hs2 hf0 hf1 hf2; have HPg4 := Aside0.mk (put3_blk (k := (0, 0, 0)) HZg4_b.out); have HQg4 := Aside0.mk (put3_below wb g4 (0, 0, 0)); generalize put3 wb g4 (0, 0, 0) = wz at HPg4 HQg4 ⊢)))
          have HFz : Aside0 (Fr g gk gc gl w wz) := ⟨HFb.out.then6 HQg4.out HSZ.out⟩
          have HDz := Aside0.mk (HDb.out.only HQg4.out HZg4_b.out (by decide) (by decide) (by decide))
          have r0 : wz.cell? ⟨g4, 0, none⟩ = some (.int .u8 0) := (blk_cell HPg4.out 0).trans rfl
          have r1 : wz.cell? ⟨g4, 1, none⟩ = some (.int .i64 0) := (blk_cell HPg4.out 1).trans rfl
          have r2 : wz.cell? ⟨g4, 2, none⟩ = some (.int .i64 0) := (blk_cell HPg4.out 2).trans rfl
          refine bodyPost_ret (v := .agg #[.int .u8 0, .int .i64 0, .int .i64 0]) (by simp [results, Try.results38, go_sem, r0, r1, r2]) rfl ?_
          rw [← HR2.out]
          exact ⟨_, rfl, HFz.out, HDz.out⟩
         | false =>
          have hr2 := HR.out
          simp only [Det.hear, h13, h15, h17, h19, h20, h21, h22, m1, m2, HET.out, Int.toNat_natCast, Bool.or_true, Bool.or_false, Bool.true_or, Bool.false_or, if_true, if_false, reduceIte, Bool.false_eq_true] at hr2
          have HR2 := Aside0.mk hr2
          clear hr2
          go_wp2_with (first | ((with_reducible refine gate_store (t := 89) (p := 4) rfl ?_); (have hs0 : wa.cell? ⟨g4, 0, none⟩ = some (.int .u8 0) := (blk_cell HZg4_a.out 0).trans rfl; have hf0 : wa.frozen? ⟨g4, 0, none⟩ = false := blk_frozen HZg4_a.out 0; have hs1 : wa.cell? ⟨g4, 1, none⟩ = some (.int .i64 0) := (blk_cell HZg4_a.out 1).trans rfl; have hf1 : wa.frozen? ⟨g4, 1, none⟩ = false := blk_frozen HZg4_a.out 1; have hs2 : wa.cell? ⟨g4, 2, none⟩ = some (.int .i64 0) := (blk_cell HZg4_a.out 2).trans rfl; have hf2 : wa.frozen? ⟨g4, 2, none⟩ = false := blk_frozen HZg4_a.out 2; refine skipL_ (w1 := put3 wa g4 (0, 0, 0)) rfl rfl (by go_simp; rfl) ?_; clear hs0 hs1 hs2 hf0 hf1 hf2; have HPg4 := Aside0.mk (put3_blk (k := (0, 0, 0)) HZg4_a.out); have HQg4 := Aside0.mk (put3_below wa g4 (0, 0, 0)); generalize put3 wa g4 (0, 0, 0) = wz at HPg4 HQg4 ⊢)))
          have HFz : Aside0 (Fr g gk gc gl w wz) := ⟨HFa.out.then6 HQg4.out HSZ.out⟩
          have HDz := Aside0.mk (HDa.out.only HQg4.out HZg4_a.out (by decide) (by decide) (by decide))
          have r0 : wz.cell? ⟨g4, 0, none⟩ = some (.int .u8 0) := (blk_cell HPg4.out 0).trans rfl
          have r1 : wz.cell? ⟨g4, 1, none⟩ = some (.int .i64 0) := (blk_cell HPg4.out 1).trans rfl
          have r2 : wz.cell? ⟨g4, 2, none⟩ = some (.int .i64 0) := (blk_cell HPg4.out 2).trans rfl
          refine bodyPost_ret (v := .agg #[.int .u8 0, .int .i64 0, .int .i64 0]) (by simp [results, Try.results38, go_sem, r0, r1, r2]) rfl ?_
          rw [← HR2.out]
          exact ⟨_, rfl, HFz.out, HDz.out⟩
       | false =>
        cases h25 : e.f2 == 25 with
        | true =>
         have hr2 := HR.out
         simp only [Det.hear, h13, h15, h17, h19, h20, h21, h22, h25, HET.out, Int.toNat_natCast, Bool.or_true, Bool.or_false, Bool.true_or, Bool.false_or, if_true, if_false, reduceIte, Bool.false_eq_true] at hr2
         have HR2 := Aside0.mk hr2
         clear hr2
         go_wp2_with (first | ((with_reducible refine gate_callee (f := 52) rfl ?_); (try (refine gate_guard (by rfl) ?_; dsimp only)); (refine goesL_ (some 90) rfl rfl Try.func52 (by kernel_rfl) rfl #[.pointer (some ⟨g, 0, none⟩), .int .i64 (t : Int), .agg #[.int .u8 6, .int .i64 e.f3, .int .i64 0]] rfl (by simp [Act.eval]) ?_; refine (learn_any HDa.out HO.out t HT.out (6, e.f3, 0)).mono ?_; rintro eb wb ⟨rfl, hf, vb, hd⟩; have HDb := Aside0.mk hd; have HFb := Aside0.mk (HFa.out.trans hf); have HZg4_b : Aside0 (KeyAt wb g4 (0, 0, 0)) := ⟨(hf.block g4 (blk_lt HZg4_a.out) HNg4.out.1 HNg4.out.2.1 HNg4.out.2.2.1 HNg4.out.2.2.2).trans HZg4_a.out⟩; clear hf hd; refine ⟨_, rfl, ?_⟩)) | ((with_reducible refine gate_store (t := 89) (p := 4) rfl ?_); (have hs0 : wb.cell? ⟨g4, 0, none⟩ = some (.int .u8 0) := (blk_cell HZg4_b.out 0).trans rfl; have hf0 : wb.frozen? ⟨g4, 0, none⟩ = false := blk_frozen HZg4_b.out 0; have hs1 : wb.cell? ⟨g4, 1, none⟩ = some (.int .i64 0) := (blk_cell HZg4_b.out 1).trans rfl; have hf1 : wb.frozen? ⟨g4, 1, none⟩ = false := blk_frozen HZg4_b.out 1; have hs2 : wb.cell? ⟨g4, 2, none⟩ = some (.int .i64 0) := (blk_cell HZg4_b.out 2).trans rfl; have hf2 : wb.frozen? ⟨g4, 2, none⟩ = false := blk_frozen HZg4_b.out 2; refine skipL_ (w1 := put3 wb g4 (0, 0, 0)) rfl rfl (by go_simp; rfl) ?_; clear hs0 hs1 hs2 hf0 hf1 hf2; have HPg4 := Aside0.mk (put3_blk (k := (0, 0, 0)) HZg4_b.out); have HQg4 := Aside0.mk (put3_below wb g4 (0, 0, 0)); generalize put3 wb g4 (0, 0, 0) = wz at HPg4 HQg4 ⊢)))
         have HFz : Aside0 (Fr g gk gc gl w wz) := ⟨HFb.out.then6 HQg4.out HSZ.out⟩
         have HDz := Aside0.mk (HDb.out.only HQg4.out HZg4_b.out (by decide) (by decide) (by decide))
         have r0 : wz.cell? ⟨g4, 0, none⟩ = some (.int .u8 0) := (blk_cell HPg4.out 0).trans rfl
         have r1 : wz.cell? ⟨g4, 1, none⟩ = some (.int .i64 0) := (blk_cell HPg4.out 1).trans rfl
         have r2 : wz.cell? ⟨g4, 2, none⟩ = some (.int .i64 0) := (blk_cell HPg4.out 2).trans rfl
         refine bodyPost_ret (v := .agg #[.int .u8 0, .int .i64 0, .int .i64 0]) (by simp [results, Try.results38, go_sem, r0, r1, r2]) rfl ?_
         rw [← HR2.out]
         exact ⟨_, rfl, HFz.out, HDz.out⟩
        | false =>
         cases h26 : e.f2 == 26 with
         | true =>
          cases m0 : e.f5 == 0 with
          | true =>
           have hr2 := HR.out
           simp only [Det.hear, h13, h15, h17, h19, h20, h21, h22, h25, h26, m0, HET.out, Int.toNat_natCast, Bool.or_true, Bool.or_false, Bool.true_or, Bool.false_or, if_true, if_false, reduceIte, Bool.false_eq_true] at hr2
           have HR2 := Aside0.mk hr2
           clear hr2
           go_wp2_with (first | ((with_reducible refine gate_callee (f := 52) rfl ?_); (try (refine gate_guard (by rfl) ?_; dsimp only)); (refine goesL_ (some 100) rfl rfl Try.func52 (by kernel_rfl) rfl #[.pointer (some ⟨g, 0, none⟩), .int .i64 (t : Int), .agg #[.int .u8 7, .int .i64 e.f3, .int .i64 0]] rfl (by simp [Act.eval]) ?_; refine (learn_any HDa.out HO.out t HT.out (7, e.f3, 0)).mono ?_; rintro eb wb ⟨rfl, hf, vb, hd⟩; have HDb := Aside0.mk hd; have HFb := Aside0.mk (HFa.out.trans hf); have HZg4_b : Aside0 (KeyAt wb g4 (0, 0, 0)) := ⟨(hf.block g4 (blk_lt HZg4_a.out) HNg4.out.1 HNg4.out.2.1 HNg4.out.2.2.1 HNg4.out.2.2.2).trans HZg4_a.out⟩; clear hf hd; refine ⟨_, rfl, ?_⟩)) | ((with_reducible refine gate_store (t := 89) (p := 4) rfl ?_); (have hs0 : wb.cell? ⟨g4, 0, none⟩ = some (.int .u8 0) := (blk_cell HZg4_b.out 0).trans rfl; have hf0 : wb.frozen? ⟨g4, 0, none⟩ = false := blk_frozen HZg4_b.out 0; have hs1 : wb.cell? ⟨g4, 1, none⟩ = some (.int .i64 0) := (blk_cell HZg4_b.out 1).trans rfl; have hf1 : wb.frozen? ⟨g4, 1, none⟩ = false := blk_frozen HZg4_b.out 1; have hs2 : wb.cell? ⟨g4, 2, none⟩ = some (.int .i64 0) := (blk_cell HZg4_b.out 2).trans rfl; have hf2 : wb.frozen? ⟨g4, 2, none⟩ = false := blk_frozen HZg4_b.out 2; refine skipL_ (w1 := put3 wb g4 (0, 0, 0)) rfl rfl (by go_simp; rfl) ?_; clear hs0 hs1 hs2 hf0 hf1 hf2; have HPg4 := Aside0.mk (put3_blk (k := (0, 0, 0)) HZg4_b.out); have HQg4 := Aside0.mk (put3_below wb g4 (0, 0, 0)); generalize put3 wb g4 (0, 0, 0) = wz at HPg4 HQg4 ⊢)))
           have HFz : Aside0 (Fr g gk gc gl w wz) := ⟨HFb.out.then6 HQg4.out HSZ.out⟩
           have HDz := Aside0.mk (HDb.out.only HQg4.out HZg4_b.out (by decide) (by decide) (by decide))
           have r0 : wz.cell? ⟨g4, 0, none⟩ = some (.int .u8 0) := (blk_cell HPg4.out 0).trans rfl
           have r1 : wz.cell? ⟨g4, 1, none⟩ = some (.int .i64 0) := (blk_cell HPg4.out 1).trans rfl
           have r2 : wz.cell? ⟨g4, 2, none⟩ = some (.int .i64 0) := (blk_cell HPg4.out 2).trans rfl
           refine bodyPost_ret (v := .agg #[.int .u8 0, .int .i64 0, .int .i64 0]) (by simp [results, Try.results38, go_sem, r0, r1, r2]) rfl ?_
           rw [← HR2.out]
           exact ⟨_, rfl, HFz.out, HDz.out⟩
          | false =>
           have hr2 := HR.out
           simp only [Det.hear, h13, h15, h17, h19, h20, h21, h22, h25, h26, m0, HET.out, Int.toNat_natCast, Bool.or_true, Bool.or_false, Bool.true_or, Bool.false_or, if_true, if_false, reduceIte, Bool.false_eq_true] at hr2
           have HR2 := Aside0.mk hr2
           clear hr2
           go_wp2_with (first | ((with_reducible refine gate_store (t := 89) (p := 4) rfl ?_); (have hs0 : wa.cell? ⟨g4, 0, none⟩ = some (.int .u8 0) := (blk_cell HZg4_a.out 0).trans rfl; have hf0 : wa.frozen? ⟨g4, 0, none⟩ = false := blk_frozen HZg4_a.out 0; have hs1 : wa.cell? ⟨g4, 1, none⟩ = some (.int .i64 0) := (blk_cell HZg4_a.out 1).trans rfl; have hf1 : wa.frozen? ⟨g4, 1, none⟩ = false := blk_frozen HZg4_a.out 1; have hs2 : wa.cell? ⟨g4, 2, none⟩ = some (.int .i64 0) := (blk_cell HZg4_a.out 2).trans rfl; have hf2 : wa.frozen? ⟨g4, 2, none⟩ = false := blk_frozen HZg4_a.out 2; refine skipL_ (w1 := put3 wa g4 (0, 0, 0)) rfl rfl (by go_simp; rfl) ?_; clear hs0 hs1 hs2 hf0 hf1 hf2; have HPg4 := Aside0.mk (put3_blk (k := (0, 0, 0)) HZg4_a.out); have HQg4 := Aside0.mk (put3_below wa g4 (0, 0, 0)); generalize put3 wa g4 (0, 0, 0) = wz at HPg4 HQg4 ⊢)))
           have HFz : Aside0 (Fr g gk gc gl w wz) := ⟨HFa.out.then6 HQg4.out HSZ.out⟩
           have HDz := Aside0.mk (HDa.out.only HQg4.out HZg4_a.out (by decide) (by decide) (by decide))
           have r0 : wz.cell? ⟨g4, 0, none⟩ = some (.int .u8 0) := (blk_cell HPg4.out 0).trans rfl
           have r1 : wz.cell? ⟨g4, 1, none⟩ = some (.int .i64 0) := (blk_cell HPg4.out 1).trans rfl
           have r2 : wz.cell? ⟨g4, 2, none⟩ = some (.int .i64 0) := (blk_cell HPg4.out 2).trans rfl
           refine bodyPost_ret (v := .agg #[.int .u8 0, .int .i64 0, .int .i64 0]) (by simp [results, Try.results38, go_sem, r0, r1, r2]) rfl ?_
           rw [← HR2.out]
           exact ⟨_, rfl, HFz.out, HDz.out⟩
         | false =>
          have hr2 := HR.out
          simp only [Det.hear, h13, h15, h17, h19, h20, h21, h22, h25, h26, HET.out, Int.toNat_natCast, Bool.or_true, Bool.or_false, Bool.true_or, Bool.false_or, if_true, if_false, reduceIte, Bool.false_eq_true] at hr2
          have HR2 := Aside0.mk hr2
          clear hr2
          go_wp2_with (first | ((with_reducible refine gate_store (t := 89) (p := 4) rfl ?_); (have hs0 : wa.cell? ⟨g4, 0, none⟩ = some (.int .u8 0) := (blk_cell HZg4_a.out 0).trans rfl; have hf0 : wa.frozen? ⟨g4, 0, none⟩ = false := blk_frozen HZg4_a.out 0; have hs1 : wa.cell? ⟨g4, 1, none⟩ = some (.int .i64 0) := (blk_cell HZg4_a.out 1).trans rfl; have hf1 : wa.frozen? ⟨g4, 1, none⟩ = false := blk_frozen HZg4_a.out 1; have hs2 : wa.cell? ⟨g4, 2, none⟩ = some (.int .i64 0) := (blk_cell HZg4_a.out 2).trans rfl; have hf2 : wa.frozen? ⟨g4, 2, none⟩ = false := blk_frozen HZg4_a.out 2; refine skipL_ (w1 := put3 wa g4 (0, 0, 0)) rfl rfl (by go_simp; rfl) ?_; clear hs0 hs1 hs2 hf0 hf1 hf2; have HPg4 := Aside0.mk (put3_blk (k := (0, 0, 0)) HZg4_a.out); have HQg4 := Aside0.mk (put3_below wa g4 (0, 0, 0)); generalize put3 wa g4 (0, 0, 0) = wz at HPg4 HQg4 ⊢)))
          have HFz : Aside0 (Fr g gk gc gl w wz) := ⟨HFa.out.then6 HQg4.out HSZ.out⟩
          have HDz := Aside0.mk (HDa.out.only HQg4.out HZg4_a.out (by decide) (by decide) (by decide))
          have r0 : wz.cell? ⟨g4, 0, none⟩ = some (.int .u8 0) := (blk_cell HPg4.out 0).trans rfl
          have r1 : wz.cell? ⟨g4, 1, none⟩ = some (.int .i64 0) := (blk_cell HPg4.out 1).trans rfl
          have r2 : wz.cell? ⟨g4, 2, none⟩ = some (.int .i64 0) := (blk_cell HPg4.out 2).trans rfl
          refine bodyPost_ret (v := .agg #[.int .u8 0, .int .i64 0, .int .i64 0]) (by simp [results, Try.results38, go_sem, r0, r1, r2]) rfl ?_
          rw [← HR2.out]
          exact ⟨_, rfl, HFz.out, HDz.out⟩
end
end Go.Proofs.Ytblnimopffhocaa.P
