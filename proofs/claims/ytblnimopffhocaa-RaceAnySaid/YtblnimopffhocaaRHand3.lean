/- next and room, walked. -/
import Derived.Test.YtblnimopffhocaaXBits
import Derived.Test.YtblnimopffhocaaRHand2
import Derived.Outline
namespace Go.Proofs.Ytblnimopffhocaa.P
open Go.RowKit Go.Proofs.YtblnimopffhocaaW.PrintWords Go.Proofs.YtblnimopffhocaaW.PrintLast Go.Proofs.YtblnimopffhocaaW.PrintMore Go.Proofs.YtblnimopffhocaaX Go.ChangeMaps
set_option linter.unusedVariables false
set_option linter.unusedSimpArgs false
def KeyAt (w : World) (b : Nat) (k : Key) : Prop := w.heap[b]? = some (.cells #[.int .u8 k.1, .int .i64 k.2.1, .int .i64 k.2.2] 89 (0, 0))
def put3 (w : World) (b : Nat) (k : Key) : World := ((w.setCell ⟨b, 0, none⟩ (.int .u8 k.1)).setCell ⟨b, 1, none⟩ (.int .i64 k.2.1)).setCell ⟨b, 2, none⟩ (.int .i64 k.2.2)
theorem put3_blk {w : World} {b : Nat} {k : Key} (h : w.heap[b]? = some (.cells #[.int .u8 0, .int .i64 0, .int .i64 0] 89 (0, 0))) : KeyAt (put3 w b k) b k := (blk_set (blk_set (blk_set h 0 _) 1 _) 2 _).trans rfl
structure Only (b : Nat) (w w' : World) : Prop where
 os : w'.os = w.os
 tape : w'.tape = w.tape
 output : w'.output = w.output
 size : w'.heap.size = w.heap.size
 block : ∀ i, i ≠ b → w'.heap[i]? = w.heap[i]?
theorem Only.set (w : World) (b j : Nat) (u : Value) : Only b w (w.setCell ⟨b, j, none⟩ u) := by
 have hb := (Below.refl 0 w).setCell (p := ⟨b, j, none⟩) (Nat.zero_le _) u
 refine ⟨hb.os, hb.tape, hb.output, ?_, fun i hi => Below.heap_setCell w ⟨b, j, none⟩ u i hi⟩
 simp
theorem Only.trans {b : Nat} {w w1 w2 : World} (h : Only b w w1) (k : Only b w1 w2) : Only b w w2 :=
 ⟨k.os.trans h.os, k.tape.trans h.tape, k.output.trans h.output, k.size.trans h.size, fun i hi => (k.block i hi).trans (h.block i hi)⟩
theorem put3_below (w : World) (b : Nat) (k : Key) : Only b w (put3 w b k) := ((Only.set w b 0 _).trans (Only.set _ b 1 _)).trans (Only.set _ b 2 _)
theorem Only.below {B b : Nat} {w w1 : World} (h : Only b w w1) {W : World} (hW : Below B W w) (hb : B ≤ b) : Below B W w1 :=
 ⟨h.os.trans hW.os, h.tape.trans hW.tape, h.output.trans hW.output, by rw [h.size]; exact hW.size, fun i hi => (h.block i (by omega)).trans (hW.block i hi)⟩
theorem Fr.then6 {g gk gc gl b : Nat} {w w1 w2 : World} (h : Fr g gk gc gl w w1) (k : Only b w1 w2) (hb : w.heap.size ≤ b) : Fr g gk gc gl w w2 :=
 ⟨k.os.trans h.os, k.tape.trans h.tape, k.output.trans h.output, by rw [k.size]; exact h.size, fun i hi a1 a2 a3 a4 => (k.block i (by omega)).trans (h.block i hi a1 a2 a3 a4)⟩
section
variable {B g gk gc gl : Nat} {w w1 : World} {p v : Nat → Value} {σ : Det} {vo : Value} {n : Nat}
theorem R_only {α : Type} {d : Kd α} {e : Nat} {b : Nat} {x : Value} {l : List α} (h : d.R e w B (fun _ => True) x l) (k : Only b w w1) {cs : Array Value} {t : TypeId} (hb : w.heap[b]? = some (.cells cs t (0, 0))) (ht : ∀ q, q ∈ e :: d.E → q ≠ t) : d.R e w1 B (fun _ => True) x l := by
 refine Kd.R_mono (Kd.R_move (Kd.R_bound h) fun i hi => k.block i ?_) (fun _ hk => hk.1)
 rintro rfl
 obtain ⟨_, _, _, q, hq, cells, hc⟩ := hi
 rw [hb] at hc
 cases hc
 exact ht _ hq rfl
theorem one_type {e t : Nat} (ht : e ≠ t) : ∀ q, q ∈ e :: (Kd.int .i64).E → q ≠ t := fun q hq => by
 rcases List.mem_cons.1 hq with rfl | hq
 · exact ht
 · cases hq
theorem one_type' {e t : Nat} (ht : e ≠ t) : ∀ q, q ∈ e :: k55.E → q ≠ t := fun q hq => by
 rcases List.mem_cons.1 hq with rfl | hq
 · exact ht
 · cases hq
theorem IsMap.only {κ : Type} {enc : κ → Value} {b m : Nat} {M : κ → Option Value} (h : IsMap enc w m M) (k : Only b w w1) {cs : Array Value} {t : TypeId} (hb : w.heap[b]? = some (.cells cs t (0, 0))) : IsMap enc w1 m M := h.move (k.block _ (h.ne hb))
theorem RowOf.only {b : Nat} {m : Option Value} {l : List Int} (h : RowOf w B m l) (k : Only b w w1) {cs : Array Value} {t : TypeId} (hb : w.heap[b]? = some (.cells cs t (0, 0))) (ht : 3 ≠ t) : RowOf w1 B m l := by
 cases m with
 | none => exact h
 | some v => exact R_only (d := Kd.int .i64) h k hb (one_type ht)
theorem DetAt.only {b : Nat} (h : DetAt B w g gk gc gl p σ v vo) (k : Only b w w1) {cs : Array Value} {t : TypeId} (hb : w.heap[b]? = some (.cells cs t (0, 0))) (t1 : 3 ≠ t) (t2 : 55 ≠ t) (t3 : 79 ≠ t) : DetAt B w1 g gk gc gl p σ v vo := by
 obtain ⟨M, hM, hR⟩ := h.hkn
 obtain ⟨N, hN, hNc⟩ := h.hct
 have hg : g ≠ b := by
  rintro rfl
  have := h.hg
  rw [hb] at this
  injection this with this
  injection this with _ h2 _
  exact t3 h2.symm
 exact ⟨(k.block _ hg).trans h.hg, fun u hu => R_only (h.hth u hu) k hb (one_type t1), ⟨M, IsMap.only hM k hb, fun x => (hR x).only k hb t1⟩, ⟨N, IsMap.only hN k hb, hNc⟩, IsMap.only h.hla k hb, R_only h.hout k hb (one_type' t2), h.ne, h.ge⟩
theorem DetAt.ct_look (h : DetAt B w g gk gc gl p σ v vo) (k : Key) : (Instr.lookup 75 (.map (some gc)) (.agg #[.int .u8 k.1, .int .i64 k.2.1, .int .i64 k.2.2]) false).run Try.prog w = .ok (.int .i64 (σ.ct k)) w := by
 obtain ⟨M, hM, hc⟩ := h.hct
 have h1 := lookup_run klKey Try.underlying75 (.int .i64 0) (fun w => by kernel_rfl) hM k
 rw [hc k] at h1
 exact h1
theorem DetAt.withCt (h : DetAt B w g gk gc gl p σ v vo) (o : Obj) {ct : Key → Int} {M : Key → Option Value} (hM : IsMap encKey (setBlock w gc o) gc M) (hc : ∀ x, (M x).getD (.int .i64 0) = .int .i64 (ct x)) :
 DetAt B (setBlock w gc o) g gk gc gl p { σ with ct := ct } v vo := by
 obtain ⟨N, hN, hR⟩ := h.hkn
 obtain ⟨M0, hM0, _⟩ := h.hct
 obtain ⟨n1, n2, n3, n4, n5, n6⟩ := h.ne
 obtain ⟨es, cl, hb, _⟩ := id hM0
 have far := fun b (hk : b ≠ gc) => heap_setBlock_ne (w := w) (o' := o) hk
 exact ⟨(far _ n2).trans h.hg, fun u hu => R_map (h.hth u hu) hb o, ⟨N, hN.move (far _ n4), fun y => (hR y).map hb o⟩, ⟨M, hM, hc⟩, h.hla.move (far _ (Ne.symm n6)), R_map h.hout hb o, h.ne, h.ge⟩
theorem DetAt.entry (h : DetAt B w g gk gc gl p σ v vo) (k : Key) (x : Int) : ∃ o st, (Instr.mapEntry 75 (.map (some gc)) (.agg #[.int .u8 k.1, .int .i64 k.2.1, .int .i64 k.2.2])).run Try.prog w = .ok (.tuple #[.int .i64 (σ.ct k), goInt st]) (setBlock w gc o) ∧
 DetAt B (setBlock w gc o) g gk gc gl p σ v vo ∧ ∃ o2, (Instr.entryStore 75 (.map (some gc)) (goInt st) (.int .i64 x)).run Try.prog (setBlock w gc o) = .ok () (setBlock (setBlock w gc o) gc o2) ∧
  DetAt B (setBlock (setBlock w gc o) gc o2) g gk gc gl p { σ with ct := up1 σ.ct k x } v vo := by
 obtain ⟨M, hM, hc⟩ := h.hct
 obtain ⟨o, st, hrun, hM1, hM2⟩ := mapEntry_run klKey Try.underlying75 (.int .i64 0) (fun w => by kernel_rfl) hM k
 rw [hc k] at hrun hM1
 obtain ⟨es, cl, hb, _⟩ := id hM
 have hb1 := heap_setBlock (w := w) (o' := o) hb
 have hD1 : DetAt B (setBlock w gc o) g gk gc gl p σ v vo := h.withCt o (hM1 _ hb1) fun y => by
  unfold upd
  split
  · rename_i e; subst e; rfl
  · exact hc y
 obtain ⟨o2, hes, hM3⟩ := hM2 (setBlock w gc o) (.int .i64 x) hb1
 refine ⟨o, st, hrun, hD1, o2, hes, hD1.withCt o2 (hM3 _ (heap_setBlock hb1)) fun y => ?_⟩
 unfold upd up1
 split
 · rfl
 · exact hc y
set_option maxRecDepth 100000 in
set_option maxHeartbeats 1000000 in
theorem next_any (h : DetAt B w g gk gc gl p σ v vo) (hO : σ.Ok n) (hn : n ≤ 1000000000) (kd ob : Int) :
 Calls Try.prog 53 #[.pointer (some ⟨g, 0, none⟩), .int .u8 kd, .int .i64 ob] w fun e w' => e = .returned (.agg #[.int .u8 kd, .int .i64 ob, .int .i64 (σ.ct (kd, ob, 0))]) ∧ Fr g gk gc gl w w' ∧ DetAt B w' g gk gc gl p (σ.count kd ob) v vo := by
 obtain ⟨c, hc⟩ : ∃ c, σ.ct (kd, ob, 0) = c := ⟨_, rfl⟩
 have hc0 := hO.ct (kd, ob, 0)
 rw [hc] at hc0
 have q0 : (0 : Int) ≤ c := hc0.1
 have q1 : c ≤ 1000000000 := by omega
 have HD := Aside0.mk h
 have HC := Aside0.mk hc
 rw [hc]
 clear h hO hc hc0
 go_enter Try.func53, Try.ntmps53
 go_wp2_with (first | ((with_reducible refine gate_dst (N := 6) rfl ?_); refine box_event ?hg (N := 6) ?hd (cs := #[.int .u8 0, .int .i64 0, .int .i64 0]) (t := 89) ?hr ?_; (case hd => rfl); (case hg => rfl); (case hr => first | (go_simp; done) | (go_simp; rfl)); intro g6 hg6_ w1 hbg6_ hlg6_; have HNg6 := Aside0.mk hg6_; have HBg6 := Aside0.mk hbg6_; have HLg6 := Aside0.mk hlg6_; clear hg6_ hbg6_ hlg6_) | ((with_reducible refine gate_dst (N := 7) rfl ?_); refine box_event ?hg (N := 7) ?hd (cs := #[.int .u8 0, .int .i64 0, .int .i64 0]) (t := 89) ?hr ?_; (case hd => rfl); (case hg => rfl); (case hr => first | (go_simp; done) | (go_simp; rfl)); intro g7 hg7_ w2 hbg7_ hlg7_; have HNg7 := Aside0.mk hg7_; have HBg7 := Aside0.mk hbg7_; have HLg7 := Aside0.mk hlg7_; clear hg7_ hbg7_ hlg7_) | ((with_reducible refine gate_store (t := 89) (p := 7) rfl ?_); go_must (have hs0 : w2.cell? ⟨g7, 0, none⟩ = some (.int .u8 0) := (blk_cell HBg7.out 0).trans rfl; have hf0 : w2.frozen? ⟨g7, 0, none⟩ = false := blk_frozen HBg7.out 0; have hs1 : w2.cell? ⟨g7, 1, none⟩ = some (.int .i64 0) := (blk_cell HBg7.out 1).trans rfl; have hf1 : w2.frozen? ⟨g7, 1, none⟩ = false := blk_frozen HBg7.out 1; have hs2 : w2.cell? ⟨g7, 2, none⟩ = some (.int .i64 0) := (blk_cell HBg7.out 2).trans rfl; have hf2 : w2.frozen? ⟨g7, 2, none⟩ = false := blk_frozen HBg7.out 2; refine skipL_ (w1 := put3 w2 g7 (kd, ob, 0)) rfl rfl (by go_simp; rfl) ?_; clear hs0 hs1 hs2 hf0 hf1 hf2; have HPg7 := Aside0.mk (put3_blk (k := (kd, ob, 0)) HBg7.out); have HQg7 := Aside0.mk (put3_below w2 g7 (kd, ob, 0)); generalize put3 w2 g7 (kd, ob, 0) = w3 at HPg7 HQg7 ⊢)))
 have h13 : Below w1.heap.size w1 w3 := HQg7.out.below HLg7.out (Nat.le_of_eq HNg7.out.symm)
 have HD3 := Aside0.mk ((HD.out.below HLg6.out).below h13)
 have HF3 : Aside0 (Fr g gk gc gl w w3) := ⟨Fr.of_below (below_then HLg6.out HLg6.out.size h13)⟩
 have H63 : Aside0 (KeyAt w3 g6 (0, 0, 0)) := ⟨(h13.block g6 (blk_lt HBg6.out)).trans HBg6.out⟩
 have HNE : Aside0 (g6 ≠ gc ∧ g7 ≠ gc ∧ g6 ≠ g ∧ g6 ≠ gk ∧ g6 ≠ gl ∧ w.heap.size ≤ g6) := ⟨by have := HD.out.lt; have := HNg6.out; have := HNg7.out; have := HLg6.out.size; omega⟩
 clear h13 HNg6 HBg6 HLg6 HNg7 HBg7 HLg7 HQg7 HD
 have hlk := (HD3.out.below (below_drew (Below.refl _ _))).ct_look (kd, ob, 0)
 rw [HC.out] at hlk
 have s0 : w3.drew.cell? ⟨g, 14, none⟩ = some (.map (some gc)) := (blk_cell (w := w3.drew) HD3.out.hg 14).trans rfl
 have s1 : w3.drew.cell? ⟨g7, 0, none⟩ = some (.int .u8 kd) := (blk_cell (w := w3.drew) HPg7.out 0).trans rfl
 have s2 : w3.drew.cell? ⟨g7, 1, none⟩ = some (.int .i64 ob) := (blk_cell (w := w3.drew) HPg7.out 1).trans rfl
 have s3 : w3.drew.cell? ⟨g7, 2, none⟩ = some (.int .i64 0) := (blk_cell (w := w3.drew) HPg7.out 2).trans rfl
 go_wp2
 refine start_ (n := 7) (S := fun w' => w'.cell? ⟨g, 14, none⟩ = some (.map (some gc)) ∧ w'.cell? ⟨g7, 0, none⟩ = some (.int .u8 kd) ∧ w'.cell? ⟨g7, 1, none⟩ = some (.int .i64 ob) ∧ w'.cell? ⟨g7, 2, none⟩ = some (.int .i64 0) ∧ (Instr.lookup 75 (.map (some gc)) (.agg #[.int .u8 kd, .int .i64 ob, .int .i64 0]) false).run Try.prog w' = .ok (.int .i64 c) w') (ds := []) (bl 7 0) (by kernel_rfl) rfl rfl ⟨s0, s1, s2, s3, hlk⟩ (fun hHeld => ?_)
 refine pure_ (i := 0) (N := some 12) (v := ?_) (a' := ?_) (bl 7 1) rfl rfl (by kernel_rfl) (fun _ _ _ h => h) (Or.inl ⟨by rfl, ?_⟩) ?_ ?_
 rotate_left
 · intro w'
   go_simp
   with_reducible rfl
 rotate_left
 · simp only [Act.put, List.setIfInBounds_toArray, List.set_cons_zero, List.set_cons_succ, i64_w, i32_w]
   rfl
 refine pure_ (i := 1) (N := some 13) (v := ?_) (a' := ?_) (bl 7 3) rfl rfl (by kernel_rfl) (fun _ _ _ h => h) (Or.inl ⟨by rfl, ?_⟩) ?_ ?_
 rotate_left
 · intro w'
   go_simp
   with_reducible rfl
 rotate_left
 · simp only [Act.put, List.setIfInBounds_toArray, List.set_cons_zero, List.set_cons_succ, i64_w, i32_w]
   rfl
 refine pure_ (i := 2) (N := some 14) (v := ?_) (a' := ?_) (bl 7 7) rfl rfl (by kernel_rfl) (fun _ _ _ h => h) (Or.inl ⟨by rfl, ?_⟩) ?_ ?_
 rotate_left
 · intro w'
   go_simp
   with_reducible rfl
 rotate_left
 · simp only [Act.put, List.setIfInBounds_toArray, List.set_cons_zero, List.set_cons_succ, i64_w, i32_w]
   rfl
 refine take_ (i := 3) (N := some 15) (v := ?_) (a' := ?_) (bl 7 15) rfl rfl (by kernel_rfl) (fun _ _ _ h => h) (Or.inl ⟨by rfl, ?_⟩) hHeld ?_ ?_
 rotate_left
 · rintro w' ⟨s0, s1, s2, s3, s4⟩
   go_simp
   with_reducible rfl
 rotate_left
 · simp only [Act.put, List.setIfInBounds_toArray, List.set_cons_zero, List.set_cons_succ, i64_w, i32_w]
   rfl
 refine take_ (i := 4) (N := some 16) (v := ?_) (a' := ?_) (bl 7 31) rfl rfl (by kernel_rfl) (fun _ _ _ h => h) (Or.inl ⟨by rfl, ?_⟩) hHeld ?_ ?_
 rotate_left
 · rintro w' ⟨s0, s1, s2, s3, s4⟩
   go_simp
   with_reducible rfl
 rotate_left
 · simp only [Act.put, List.setIfInBounds_toArray, List.set_cons_zero, List.set_cons_succ, i64_w, i32_w]
   rfl
 refine take_ (i := 5) (N := some 17) (v := ?_) (a' := ?_) (bl 7 63) rfl rfl (by kernel_rfl) (fun _ _ _ h => h) (Or.inl ⟨by rfl, ?_⟩) hHeld ?_ ?_
 rotate_left
 · rintro w' ⟨s0, s1, s2, s3, s4⟩
   go_simp
   with_reducible rfl
 rotate_left
 · simp only [Act.put, List.setIfInBounds_toArray, List.set_cons_zero, List.set_cons_succ, i64_w, i32_w]
   rfl
 refine pure_ (i := 6) (N := some 8) (v := ?_) (a' := ?_) (bl 7 127) rfl rfl (by kernel_rfl) (fun _ _ _ h => h) (Or.inl ⟨by rfl, ?_⟩) ?_ ?_
 rotate_left
 · intro w'
   go_simp
   with_reducible rfl
 rotate_left
 · simp only [Act.put, List.setIfInBounds_toArray, List.set_cons_zero, List.set_cons_succ, i64_w, i32_w]
   rfl
 refine done_ (by kernel_rfl) ?_
 have HF4 : Aside0 (Fr g gk gc gl w w3.drew) := ⟨HF3.out.trans (Fr.of_below (below_drew (Below.refl _ _)))⟩
 have HD4 := Aside0.mk (HD3.out.below (below_drew (Below.refl _ _)))
 have HP4 : Aside0 (KeyAt w3.drew g7 (kd, ob, 0)) := ⟨HPg7.out⟩
 have H64 : Aside0 (KeyAt w3.drew g6 (0, 0, 0)) := ⟨H63.out⟩
 clear s0 s1 s2 s3 hlk hHeld HF3 HD3 HPg7 H63
 generalize w3.drew = w4 at HF4 HD4 HP4 H64 ⊢
 have hlk := (HD4.out.below (below_drew (Below.refl _ _))).ct_look (kd, ob, 0)
 rw [HC.out] at hlk
 have s0 : w4.drew.cell? ⟨g, 14, none⟩ = some (.map (some gc)) := (blk_cell (w := w4.drew) HD4.out.hg 14).trans rfl
 have s1 : w4.drew.cell? ⟨g7, 0, none⟩ = some (.int .u8 kd) := (blk_cell (w := w4.drew) HP4.out 0).trans rfl
 have s2 : w4.drew.cell? ⟨g7, 1, none⟩ = some (.int .i64 ob) := (blk_cell (w := w4.drew) HP4.out 1).trans rfl
 have s3 : w4.drew.cell? ⟨g7, 2, none⟩ = some (.int .i64 0) := (blk_cell (w := w4.drew) HP4.out 2).trans rfl
 obtain ⟨o1, st, hme, hD5, o2, hes, hD6⟩ := (HD4.out.below (below_drew (Below.refl _ _))).entry (kd, ob, 0) (c + 1)
 rw [HC.out] at hme
 have HD5 := Aside0.mk hD5
 have HD6 := Aside0.mk hD6
 have HES := Aside0.mk hes
 have hme' : (Instr.mapEntry 75 (.map (some gc)) (.agg #[.int .u8 kd, .int .i64 ob, .int .i64 0])).run Try.prog w4.drew = .ok (.tuple #[.int .i64 c, goInt st]) (setBlock w4.drew gc o1) := hme
 clear hme hD5 hD6 hes
 go_wp2
 refine start_ (n := 10) (S := fun w' => w'.cell? ⟨g, 14, none⟩ = some (.map (some gc)) ∧ w'.cell? ⟨g7, 0, none⟩ = some (.int .u8 kd) ∧ w'.cell? ⟨g7, 1, none⟩ = some (.int .i64 ob) ∧ w'.cell? ⟨g7, 2, none⟩ = some (.int .i64 0) ∧ (Instr.lookup 75 (.map (some gc)) (.agg #[.int .u8 kd, .int .i64 ob, .int .i64 0]) false).run Try.prog w' = .ok (.int .i64 c) w') (ds := [9]) (bl 10 0) (by kernel_rfl) rfl rfl ⟨s0, s1, s2, s3, hlk⟩ (fun hHeld => ?_)
 refine pure_ (i := 0) (N := some 18) (v := ?_) (a' := ?_) (bl 10 1) rfl rfl (by kernel_rfl) (fun _ _ _ h => h) (Or.inl ⟨by rfl, ?_⟩) ?_ ?_
 rotate_left
 · intro w'
   go_simp
   with_reducible rfl
 rotate_left
 · simp only [Act.put, List.setIfInBounds_toArray, List.set_cons_zero, List.set_cons_succ, i64_w, i32_w]
   rfl
 refine pure_ (i := 1) (N := some 19) (v := ?_) (a' := ?_) (bl 10 3) rfl rfl (by kernel_rfl) (fun _ _ _ h => h) (Or.inl ⟨by rfl, ?_⟩) ?_ ?_
 rotate_left
 · intro w'
   go_simp
   with_reducible rfl
 rotate_left
 · simp only [Act.put, List.setIfInBounds_toArray, List.set_cons_zero, List.set_cons_succ, i64_w, i32_w]
   rfl
 refine pure_ (i := 2) (N := some 20) (v := ?_) (a' := ?_) (bl 10 7) rfl rfl (by kernel_rfl) (fun _ _ _ h => h) (Or.inl ⟨by rfl, ?_⟩) ?_ ?_
 rotate_left
 · intro w'
   go_simp
   with_reducible rfl
 rotate_left
 · simp only [Act.put, List.setIfInBounds_toArray, List.set_cons_zero, List.set_cons_succ, i64_w, i32_w]
   rfl
 refine take_ (i := 3) (N := some 21) (v := ?_) (a' := ?_) (bl 10 15) rfl rfl (by kernel_rfl) (fun _ _ _ h => h) (Or.inl ⟨by rfl, ?_⟩) hHeld ?_ ?_
 rotate_left
 · rintro w' ⟨s0, s1, s2, s3, s4⟩
   go_simp
   with_reducible rfl
 rotate_left
 · simp only [Act.put, List.setIfInBounds_toArray, List.set_cons_zero, List.set_cons_succ, i64_w, i32_w]
   rfl
 refine take_ (i := 4) (N := some 22) (v := ?_) (a' := ?_) (bl 10 31) rfl rfl (by kernel_rfl) (fun _ _ _ h => h) (Or.inl ⟨by rfl, ?_⟩) hHeld ?_ ?_
 rotate_left
 · rintro w' ⟨s0, s1, s2, s3, s4⟩
   go_simp
   with_reducible rfl
 rotate_left
 · simp only [Act.put, List.setIfInBounds_toArray, List.set_cons_zero, List.set_cons_succ, i64_w, i32_w]
   rfl
 refine take_ (i := 5) (N := some 23) (v := ?_) (a' := ?_) (bl 10 63) rfl rfl (by kernel_rfl) (fun _ _ _ h => h) (Or.inl ⟨by rfl, ?_⟩) hHeld ?_ ?_
 rotate_left
 · rintro w' ⟨s0, s1, s2, s3, s4⟩
   go_simp
   with_reducible rfl
 rotate_left
 · simp only [Act.put, List.setIfInBounds_toArray, List.set_cons_zero, List.set_cons_succ, i64_w, i32_w]
   rfl
 refine pure_ (i := 6) (N := some 24) (v := ?_) (a' := ?_) (bl 10 127) rfl rfl (by kernel_rfl) (fun _ _ _ h => h) (Or.inl ⟨by rfl, ?_⟩) ?_ ?_
 rotate_left
 · intro w'
   go_simp
   with_reducible rfl
 rotate_left
 · simp only [Act.put, List.setIfInBounds_toArray, List.set_cons_zero, List.set_cons_succ, i64_w, i32_w]
   rfl
 refine one_ (i := 7) (N := some 25) (bl 10 255) rfl rfl (by kernel_rfl) (by decide) (fun K hK => ?_)
 refine value_ (w1 := setBlock w4.drew gc o1) (v := .tuple #[.int .i64 c, goInt st]) (by rfl) rfl ?_ ?_
 · go_simp
 have hl5 := HD5.out.ct_look (kd, ob, 0)
 rw [HC.out] at hl5
 have HP5 : Aside0 (KeyAt (setBlock w4.drew gc o1) g7 (kd, ob, 0)) := ⟨(heap_setBlock_ne HNE.out.2.1).trans HP4.out⟩
 have hes := HES.out
 refine hK.out _ _ ⟨((blk_cell HD5.out.hg 14).trans rfl), ((blk_cell HP5.out 0).trans rfl), ((blk_cell HP5.out 1).trans rfl), ((blk_cell HP5.out 2).trans rfl), hl5⟩ (fun hHeld => ?_)
 clear hK K
 refine norm_ (a' := ?_) ?_ ?_
 rotate_left
 · show Act.put _ (some 25) _ = _
   simp only [Act.put, List.setIfInBounds_toArray, List.set_cons_zero, List.set_cons_succ, i64_w, i32_w]
   rfl
 refine pure_ (i := 8) (N := some 26) (v := ?_) (a' := ?_) (bl 10 511) rfl rfl (by kernel_rfl) (fun _ _ _ h => h) (Or.inl ⟨by rfl, ?_⟩) ?_ ?_
 rotate_left
 · intro w'
   go_simp
   with_reducible rfl
 rotate_left
 · simp only [Act.put, List.setIfInBounds_toArray, List.set_cons_zero, List.set_cons_succ, i64_w, i32_w]
   rfl
 refine last_ (i := 9) (N := none) (bl 10 1023) rfl rfl (by kernel_rfl) (by decide) (fun K hK => ?_)
 refine skip_ (w1 := setBlock (setBlock w4.drew gc o1) gc o2) (by rfl) rfl ?_ ?_
 · go_simp
   rw [show wrap64 (c + 1) = c + 1 from by unfold wrap64; omega, show Value.int IntKind.i64 st = goInt st from rfl, hes]
   rfl
 refine hK.out _ _ ?_
 clear hK K
 refine done_ (by kernel_rfl) ?_
 have HF6 : Aside0 (Fr g gk gc gl w (setBlock (setBlock w4.drew gc o1) gc o2)) := ⟨((HF4.out.trans (Fr.of_below (below_drew (Below.refl _ _)))).setBlock (.inr (.inl rfl)) o1).setBlock (.inr (.inl rfl)) o2⟩
 have HBg6 : Aside0 ((setBlock (setBlock w4.drew gc o1) gc o2).heap[g6]? = some (.cells #[.int .u8 0, .int .i64 0, .int .i64 0] 89 (0, 0))) := ⟨(heap_setBlock_ne HNE.out.1).trans ((heap_setBlock_ne HNE.out.1).trans H64.out)⟩
 clear s0 s1 s2 s3 hlk hHeld HF4 HD4 HP4 H64 hme' HD5 HES
 try clear hes
 try clear hl5 HP5
 generalize setBlock (setBlock w4.drew gc o1) gc o2 = w6 at HF6 HD6 HBg6 ⊢
 go_wp2_with (first | ((with_reducible refine gate_store (t := 89) (p := 6) rfl ?_); go_must (have hs0 : w6.cell? ⟨g6, 0, none⟩ = some (.int .u8 0) := (blk_cell HBg6.out 0).trans rfl; have hf0 : w6.frozen? ⟨g6, 0, none⟩ = false := blk_frozen HBg6.out 0; have hs1 : w6.cell? ⟨g6, 1, none⟩ = some (.int .i64 0) := (blk_cell HBg6.out 1).trans rfl; have hf1 : w6.frozen? ⟨g6, 1, none⟩ = false := blk_frozen HBg6.out 1; have hs2 : w6.cell? ⟨g6, 2, none⟩ = some (.int .i64 0) := (blk_cell HBg6.out 2).trans rfl; have hf2 : w6.frozen? ⟨g6, 2, none⟩ = false := blk_frozen HBg6.out 2; refine skipL_ (w1 := put3 w6 g6 (kd, ob, c)) rfl rfl (by go_simp; rfl) ?_; clear hs0 hs1 hs2 hf0 hf1 hf2; have HPg6 := Aside0.mk (put3_blk (k := (kd, ob, c)) HBg6.out); have HQg6 := Aside0.mk (put3_below w6 g6 (kd, ob, c)); generalize put3 w6 g6 (kd, ob, c) = w7 at HPg6 HQg6 ⊢)))
 have HF7 : Aside0 (Fr g gk gc gl w w7) := ⟨HF6.out.then6 HQg6.out HNE.out.2.2.2.2.2⟩
 have HD7 := Aside0.mk (HD6.out.only HQg6.out HBg6.out (by decide) (by decide) (by decide))
 have r0 : w7.cell? ⟨g6, 0, none⟩ = some (.int .u8 kd) := (blk_cell HPg6.out 0).trans rfl
 have r1 : w7.cell? ⟨g6, 1, none⟩ = some (.int .i64 ob) := (blk_cell HPg6.out 1).trans rfl
 have r2 : w7.cell? ⟨g6, 2, none⟩ = some (.int .i64 c) := (blk_cell HPg6.out 2).trans rfl
 refine bodyPost_ret (v := .agg #[.int .u8 kd, .int .i64 ob, .int .i64 c]) (by simp [results, Try.results53, go_sem, r0, r1, r2]) rfl ⟨rfl, HF7.out, ?_⟩
 have h8 := HD7.out
 unfold Det.count
 rw [HC.out]
 exact h8
theorem room_any (h : DetAt B w g gk gc gl p σ v vo) (A3 : Option Addr) (c3 : Nat) (l3 : List Int) (hp : p 3 = .slice A3 l3.length c3) (hC : Kd.C (Kd.int .i64) w A3 l3.length l3) (ob : Int) :
 Calls Try.prog 54 #[.pointer (some ⟨g, 0, none⟩), .int .i64 ob] w fun e w' => e = .returned (.int .i64 (roomL l3 ob)) ∧ w = w' := by
 have HC := Aside0.mk hC
 have hL : (l3.length : Int) ≤ 9223372036854775807 := by have := Kd.C_max hC; omega
 have s3 : w.cell? ⟨g, 3, none⟩ = some (.slice A3 l3.length c3) := by rw [← hp]; exact (blk_cell h.hg 3).trans rfl
 clear h hC hp
 unfold roomL
 cases h1 : decide (ob < 0) with
 | true =>
  have h2 := of_decide_eq_true h1
  rw [if_pos h2]
  clear h2
  go_enter Try.func54, Try.ntmps54
  go_wp2
  go_ret
  exact ⟨rfl, rfl⟩
 | false =>
  have h2 := of_decide_eq_false h1
  rw [if_neg h2]
  cases h3 : decide ((l3.length : Int) ≤ ob) with
  | true =>
   have h4 := of_decide_eq_true h3
   rw [if_pos h4]
   clear h2 h4
   go_enter Try.func54, Try.ntmps54
   go_wp2
   go_ret
   exact ⟨rfl, rfl⟩
  | false =>
   have h4 := of_decide_eq_false h3
   rw [if_neg h4]
   have p1 : (0 : Int) ≤ ob := by omega
   have p2 : ob < (l3.length : Int) := by omega
   obtain ⟨ad, e, hx⟩ := Kd.at_int HC.out ob p1 p2
   subst e
   clear h2 h4
   go_enter Try.func54, Try.ntmps54
   go_wp2
   go_ret
   exact ⟨rfl, rfl⟩
end
end Go.Proofs.Ytblnimopffhocaa.P
