/- latest, walked. -/
import Derived.Test.YtblnimopffhocaaXBits
import Derived.Test.YtblnimopffhocaaRHand3
namespace Go.Proofs.Ytblnimopffhocaa.P
open Go.RowKit Go.Proofs.YtblnimopffhocaaW.PrintWords Go.Proofs.YtblnimopffhocaaW.PrintLast Go.Proofs.YtblnimopffhocaaW.PrintMore Go.Proofs.YtblnimopffhocaaX Go.ChangeMaps
set_option linter.unusedVariables false
set_option linter.unusedSimpArgs false
def AccAt (w : World) (b : Nat) (x y : Int) : Prop := w.heap[b]? = some (.cells #[.int .i64 x, .int .i64 y] 93 (0, 0))
def put2a (w : World) (b : Nat) (x y : Int) : World := (w.setCell ⟨b, 0, none⟩ (.int .i64 x)).setCell ⟨b, 1, none⟩ (.int .i64 y)
theorem put2a_blk {w : World} {b : Nat} {x y : Int} (h : w.heap[b]? = some (.cells #[.int .i64 0, .int .i64 0] 93 (0, 0))) : AccAt (put2a w b x y) b x y := (blk_set (blk_set h 0 _) 1 _).trans rfl
theorem put2a_only (w : World) (b : Nat) (x y : Int) : Only b w (put2a w b x y) := (Only.set w b 0 _).trans (Only.set _ b 1 _)
section
variable {B g gk gc gl : Nat} {w w1 : World} {p v : Nat → Value} {σ : Det} {vo : Value} {n : Nat}
theorem DetAt.la_look (h : DetAt B w g gk gc gl p σ v vo) (k : Tch) (a : Int × Int) (is : Bool) (ha : (σ.la k).getD (0, 0) = a) (hi : (σ.la k).isSome = is) :
 (Instr.lookup 76 (.map (some gl)) (.agg #[.int .i64 k.1, .int .i64 k.2.1, .bool k.2.2]) true).run Try.prog w = .ok (.tuple #[.agg #[.int .i64 a.1, .int .i64 a.2], .bool is]) w := by
 have h1 := lookup_ok_run klTch Try.underlying76 (accV (0, 0)) (fun w => by kernel_rfl) h.hla k
 unfold laM at h1
 subst ha
 subst hi
 cases hk : σ.la k with
 | none => rw [hk] at h1; exact h1
 | some x => rw [hk] at h1; exact h1
set_option maxRecDepth 100000 in
set_option maxHeartbeats 4000000 in
theorem latest_any (h : DetAt B w g gk gc gl p σ v vo) (e : S40) (u : Nat) (r : (Int × Int) × Bool) (hr : σ.latest u e = r) :
 Calls Try.prog 40 #[.pointer (some ⟨g, 0, none⟩), .int .i64 (u : Int), .agg #[.int .i64 e.f0, .int .i64 e.f1, .int .u8 e.f2, .int .i64 e.f3, .int .i64 e.f4, .int .i64 e.f5]] w fun en w' => en = .returned (.tuple #[.agg #[.int .i64 r.1.1, .int .i64 r.1.2], .bool r.2]) ∧ Below w.heap.size w w' := by
 obtain ⟨a, ha⟩ : ∃ a, (σ.la ((u : Int), e.f3, true)).getD (0, 0) = a := ⟨_, rfl⟩
 obtain ⟨is, hi⟩ : ∃ a, (σ.la ((u : Int), e.f3, true)).isSome = a := ⟨_, rfl⟩
 obtain ⟨b, hb⟩ : ∃ a, (σ.la ((u : Int), e.f3, false)).getD (0, 0) = a := ⟨_, rfl⟩
 obtain ⟨was, hw⟩ : ∃ a, (σ.la ((u : Int), e.f3, false)).isSome = a := ⟨_, rfl⟩
 unfold Det.latest at hr
 rw [ha, hi, hb, hw] at hr
 have HA : Aside0 (∀ w, DetAt B w g gk gc gl p σ v vo → (Instr.lookup 76 (.map (some gl)) (.agg #[.int .i64 (u : Int), .int .i64 e.f3, .bool true]) true).run Try.prog w = .ok (.tuple #[.agg #[.int .i64 a.1, .int .i64 a.2], .bool is]) w) := ⟨fun w h => h.la_look ((u : Int), e.f3, true) a is ha hi⟩
 have HBB : Aside0 (∀ w, DetAt B w g gk gc gl p σ v vo → (Instr.lookup 76 (.map (some gl)) (.agg #[.int .i64 (u : Int), .int .i64 e.f3, .bool false]) true).run Try.prog w = .ok (.tuple #[.agg #[.int .i64 b.1, .int .i64 b.2], .bool was]) w) := ⟨fun w h => h.la_look ((u : Int), e.f3, false) b was hb hw⟩
 have HD := Aside0.mk h
 have HR := Aside0.mk hr
 clear h ha hi hb hw hr
 go_enter Try.func40, Try.ntmps40
 go_wp2_with (first | ((with_reducible refine gate_dst (N := 5) rfl ?_); refine box_event ?hg (N := 5) ?hd (cs := #[.int .i64 e.f0, .int .i64 e.f1, .int .u8 e.f2, .int .i64 e.f3, .int .i64 e.f4, .int .i64 e.f5]) (t := 40) ?hr ?_; (case hd => rfl); (case hg => rfl); (case hr => first | (go_simp; done) | (go_simp; rfl)); intro g5 hg5_ w1 hbg5_ hlg5_; have HNg5 := Aside0.mk hg5_; have HBg5 := Aside0.mk hbg5_; have HLg5 := Aside0.mk hlg5_; clear hg5_ hbg5_ hlg5_) | ((with_reducible refine gate_dst (N := 6) rfl ?_); refine box_event ?hg (N := 6) ?hd (cs := #[.int .i64 0, .int .i64 0]) (t := 93) ?hr ?_; (case hd => rfl); (case hg => rfl); (case hr => first | (go_simp; done) | (go_simp; rfl)); intro g6 hg6_ w2 hbg6_ hlg6_; have HNg6 := Aside0.mk hg6_; have HBg6 := Aside0.mk hbg6_; have HLg6 := Aside0.mk hlg6_; clear hg6_ hbg6_ hlg6_))
 have HF2 : Aside0 (Below w.heap.size w w2.drew) := ⟨below_drew (below_then HLg5.out HLg5.out.size HLg6.out)⟩
 have HG2 : Aside0 (w.heap.size ≤ g6 ∧ g5 < g6) := ⟨by have := HNg5.out; have := HNg6.out; have := HLg5.out.size; have := blk_lt HBg5.out; omega⟩
 have HD2 := Aside0.mk (((HD.out.below HLg5.out).below HLg6.out).below (below_drew (Below.refl _ _)))
 have HE2 : Aside0 (w2.drew.heap[g5]? = some (.cells #[.int .i64 e.f0, .int .i64 e.f1, .int .u8 e.f2, .int .i64 e.f3, .int .i64 e.f4, .int .i64 e.f5] 40 (0, 0))) := ⟨(HLg6.out.block g5 (blk_lt HBg5.out)).trans HBg5.out⟩
 have HZ2 : Aside0 (w2.drew.heap[g6]? = some (.cells #[.int .i64 0, .int .i64 0] 93 (0, 0))) := ⟨HBg6.out⟩
 have s0 : w2.drew.cell? ⟨g, 15, none⟩ = some (.map (some gl)) := (blk_cell HD2.out.hg 15).trans rfl
 have s1 : w2.drew.cell? ⟨g5, 3, none⟩ = some (.int .i64 e.f3) := (blk_cell HE2.out 3).trans rfl
 have hlk := HA.out _ HD2.out
 refine start_ (n := 15) (S := fun w' => w'.cell? ⟨g, 15, none⟩ = some (.map (some gl)) ∧ w'.cell? ⟨g5, 3, none⟩ = some (.int .i64 e.f3) ∧ (Instr.lookup 76 (.map (some gl)) (.agg #[.int .i64 (u : Int), .int .i64 e.f3, .bool true]) true).run Try.prog w' = .ok (.tuple #[.agg #[.int .i64 a.1, .int .i64 a.2], .bool is]) w') (ds := [13]) (bl 15 0) (by kernel_rfl) rfl rfl ⟨s0, s1, hlk⟩ (fun hHeld => ?_)
 refine pure_ (i := 0) (N := some 13) (v := ?_) (a' := ?_) (bl 15 1) rfl rfl (by kernel_rfl) (fun _ _ _ h => h) (Or.inl ⟨by rfl, ?_⟩) ?_ ?_
 rotate_left
 · intro w'
   go_simp
   with_reducible rfl
 rotate_left
 · simp only [Act.put, List.setIfInBounds_toArray, List.set_cons_zero, List.set_cons_succ, i64_w, i32_w]
   rfl
 refine pure_ (i := 1) (N := some 14) (v := ?_) (a' := ?_) (bl 15 3) rfl rfl (by kernel_rfl) (fun _ _ _ h => h) (Or.inl ⟨by rfl, ?_⟩) ?_ ?_
 rotate_left
 · intro w'
   go_simp
   with_reducible rfl
 rotate_left
 · simp only [Act.put, List.setIfInBounds_toArray, List.set_cons_zero, List.set_cons_succ, i64_w, i32_w]
   rfl
 refine pure_ (i := 2) (N := some 15) (v := ?_) (a' := ?_) (bl 15 7) rfl rfl (by kernel_rfl) (fun _ _ _ h => h) (Or.inl ⟨by rfl, ?_⟩) ?_ ?_
 rotate_left
 · intro w'
   go_simp
   with_reducible rfl
 rotate_left
 · simp only [Act.put, List.setIfInBounds_toArray, List.set_cons_zero, List.set_cons_succ, i64_w, i32_w]
   rfl
 refine pure_ (i := 4) (N := some 17) (v := ?_) (a' := ?_) (bl 15 23) rfl rfl (by kernel_rfl) (fun _ _ _ h => h) (Or.inl ⟨by rfl, ?_⟩) ?_ ?_
 rotate_left
 · intro w'
   go_simp
   with_reducible rfl
 rotate_left
 · simp only [Act.put, List.setIfInBounds_toArray, List.set_cons_zero, List.set_cons_succ, i64_w, i32_w]
   rfl
 refine pure_ (i := 5) (N := some 18) (v := ?_) (a' := ?_) (bl 15 55) rfl rfl (by kernel_rfl) (fun _ _ _ h => h) (Or.inl ⟨by rfl, ?_⟩) ?_ ?_
 rotate_left
 · intro w'
   go_simp
   with_reducible rfl
 rotate_left
 · simp only [Act.put, List.setIfInBounds_toArray, List.set_cons_zero, List.set_cons_succ, i64_w, i32_w]
   rfl
 refine take_ (i := 3) (N := some 16) (v := ?_) (a' := ?_) (bl 15 63) rfl rfl (by kernel_rfl) (fun _ _ _ h => h) (Or.inl ⟨by rfl, ?_⟩) hHeld ?_ ?_
 rotate_left
 · rintro w' ⟨s0, s1, s2⟩
   go_simp
   with_reducible rfl
 rotate_left
 · simp only [Act.put, List.setIfInBounds_toArray, List.set_cons_zero, List.set_cons_succ, i64_w, i32_w]
   rfl
 refine take_ (i := 6) (N := some 19) (v := ?_) (a' := ?_) (bl 15 127) rfl rfl (by kernel_rfl) (fun _ _ _ h => h) (Or.inl ⟨by rfl, ?_⟩) hHeld ?_ ?_
 rotate_left
 · rintro w' ⟨s0, s1, s2⟩
   go_simp
   with_reducible rfl
 rotate_left
 · simp only [Act.put, List.setIfInBounds_toArray, List.set_cons_zero, List.set_cons_succ, i64_w, i32_w]
   rfl
 refine pure_ (i := 7) (N := some 20) (v := ?_) (a' := ?_) (bl 15 255) rfl rfl (by kernel_rfl) (fun _ _ _ h => h) (Or.inl ⟨by rfl, ?_⟩) ?_ ?_
 rotate_left
 · intro w'
   go_simp
   with_reducible rfl
 rotate_left
 · simp only [Act.put, List.setIfInBounds_toArray, List.set_cons_zero, List.set_cons_succ, i64_w, i32_w]
   rfl
 refine take_ (i := 8) (N := some 21) (v := ?_) (a' := ?_) (bl 15 511) rfl rfl (by kernel_rfl) (fun _ _ _ h => h) (Or.inl ⟨by rfl, ?_⟩) hHeld ?_ ?_
 rotate_left
 · rintro w' ⟨s0, s1, s2⟩
   go_simp
   with_reducible rfl
 rotate_left
 · simp only [Act.put, List.setIfInBounds_toArray, List.set_cons_zero, List.set_cons_succ, i64_w, i32_w]
   rfl
 refine pure_ (i := 9) (N := some 12) (v := ?_) (a' := ?_) (bl 15 1023) rfl rfl (by kernel_rfl) (fun _ _ _ h => h) (Or.inl ⟨by rfl, ?_⟩) ?_ ?_
 rotate_left
 · intro w'
   go_simp
   with_reducible rfl
 rotate_left
 · simp only [Act.put, List.setIfInBounds_toArray, List.set_cons_zero, List.set_cons_succ, i64_w, i32_w]
   rfl
 refine pure_ (i := 10) (N := some 22) (v := ?_) (a' := ?_) (bl 15 2047) rfl rfl (by kernel_rfl) (fun _ _ _ h => h) (Or.inl ⟨by rfl, ?_⟩) ?_ ?_
 rotate_left
 · intro w'
   go_simp
   with_reducible rfl
 rotate_left
 · simp only [Act.put, List.setIfInBounds_toArray, List.set_cons_zero, List.set_cons_succ, i64_w, i32_w]
   rfl
 refine pure_ (i := 11) (N := some 23) (v := ?_) (a' := ?_) (bl 15 4095) rfl rfl (by kernel_rfl) (fun _ _ _ h => h) (Or.inl ⟨by rfl, ?_⟩) ?_ ?_
 rotate_left
 · intro w'
   go_simp
   with_reducible rfl
 rotate_left
 · simp only [Act.put, List.setIfInBounds_toArray, List.set_cons_zero, List.set_cons_succ, i64_w, i32_w]
   rfl
 refine one_ (i := 12) (N := some 8) (bl 15 8191) rfl rfl (by kernel_rfl) (by decide) (fun K hK => ?_)
 refine box_step ?hg (N := 8) ?hd (cs := #[.int .i64 0, .int .i64 0]) (t := 93) ?hr ?_; (case hd => rfl); (case hg => rfl); (case hr => first | (go_simp; done) | (go_simp; rfl))
 intro g8 hg8 w3 hc8 hb8
 have HY8 := Aside0.mk hg8
 clear hg8
 have hl8 := HA.out _ (HD2.out.below hb8)
 have hs0 : w3.cell? ⟨g8, 0, none⟩ = some (.int .i64 0) := (blk_cell hc8 0).trans rfl
 have hs1 : w3.cell? ⟨g8, 1, none⟩ = some (.int .i64 0) := (blk_cell hc8 1).trans rfl
 have hf0 : w3.frozen? ⟨g8, 0, none⟩ = false := blk_frozen hc8 0
 have hf1 : w3.frozen? ⟨g8, 1, none⟩ = false := blk_frozen hc8 1
 refine hK.out _ _ ⟨(pw_cell_below hb8 hHeld.1), (pw_cell_below hb8 hHeld.2.1), hl8⟩ (fun hHeld => ?_)
 clear hK K
 refine norm_ (a' := ?_) ?_ ?_
 rotate_left
 · show Act.put _ (some 8) _ = _
   simp only [Act.put, List.setIfInBounds_toArray, List.set_cons_zero, List.set_cons_succ, i64_w, i32_w]
   rfl
 refine last_ (i := 13) (N := none) (bl 15 16383) rfl rfl (by kernel_rfl) (by decide) (fun K hK => ?_)
 refine skip_ (w1 := put2a w3 g8 a.1 a.2) (by rfl) rfl ?_ ?_
 · go_simp
   rfl
 refine hK.out _ _ ?_
 clear hK K
 refine pure_ (i := 14) (N := some 9) (v := ?_) (a' := ?_) (bl 15 32767) rfl rfl (by kernel_rfl) (fun _ _ _ h => h) (Or.inl ⟨by rfl, ?_⟩) ?_ ?_
 rotate_left
 · intro w'
   go_simp
   with_reducible rfl
 rotate_left
 · simp only [Act.put, List.setIfInBounds_toArray, List.set_cons_zero, List.set_cons_succ, i64_w, i32_w]
   rfl
 refine done_ (by kernel_rfl) ?_
 have HF4 : Aside0 (Below w.heap.size w (put2a w3 g8 a.1 a.2)) := ⟨(put2a_only w3 g8 a.1 a.2).below (below_then HF2.out HF2.out.size hb8) (by have := HF2.out.size; have := HY8.out; omega)⟩
 have h24 : Below w2.drew.heap.size w2.drew (put2a w3 g8 a.1 a.2) := (put2a_only w3 g8 a.1 a.2).below hb8 (Nat.le_of_eq HY8.out.symm)
 have HD4 := Aside0.mk (HD2.out.below h24)
 have HE4 : Aside0 ((put2a w3 g8 a.1 a.2).heap[g5]? = some (.cells #[.int .i64 e.f0, .int .i64 e.f1, .int .u8 e.f2, .int .i64 e.f3, .int .i64 e.f4, .int .i64 e.f5] 40 (0, 0))) := ⟨(h24.block g5 (blk_lt HE2.out)).trans HE2.out⟩
 have HZ4 : Aside0 ((put2a w3 g8 a.1 a.2).heap[g6]? = some (.cells #[.int .i64 0, .int .i64 0] 93 (0, 0))) := ⟨(h24.block g6 (blk_lt HZ2.out)).trans HZ2.out⟩
 have HA4 : Aside0 (AccAt (put2a w3 g8 a.1 a.2) g8 a.1 a.2) := ⟨put2a_blk hc8⟩
 have HG4 : Aside0 (g6 ≠ g8 ∧ w.heap.size ≤ g6) := ⟨by have := blk_lt HZ2.out; have := HG2.out; have := HY8.out; have : w2.drew.heap.size = w2.heap.size := rfl; omega⟩
 clear s0 s1 hlk hHeld HA HD HNg5 HBg5 HLg5 HNg6 HBg6 HLg6 HF2 HG2 HD2 HE2 HZ2 hb8 HY8 hc8 h24
 try clear hs0 hs1 hf0 hf1
 generalize put2a w3 g8 a.1 a.2 = w4 at HF4 HD4 HE4 HZ4 HA4 ⊢
 have u2 : w4.cell? ⟨g5, 2, none⟩ = some (.int .u8 e.f2) := (blk_cell HE4.out 2).trans rfl
 cases h8 : e.f2 == 8 with
 | false =>
  have a0 : w4.cell? ⟨g8, 0, none⟩ = some (.int .i64 a.1) := (blk_cell HA4.out 0).trans rfl
  have a1 : w4.cell? ⟨g8, 1, none⟩ = some (.int .i64 a.2) := (blk_cell HA4.out 1).trans rfl
  have HBg6 := HZ4
  go_wp2_with (first | ((with_reducible refine gate_store (t := 93) (p := 6) rfl ?_); go_must (have hs0 : w4.cell? ⟨g6, 0, none⟩ = some (.int .i64 0) := (blk_cell HBg6.out 0).trans rfl; have hf0 : w4.frozen? ⟨g6, 0, none⟩ = false := blk_frozen HBg6.out 0; have hs1 : w4.cell? ⟨g6, 1, none⟩ = some (.int .i64 0) := (blk_cell HBg6.out 1).trans rfl; have hf1 : w4.frozen? ⟨g6, 1, none⟩ = false := blk_frozen HBg6.out 1; refine skipL_ (w1 := put2a w4 g6 a.1 a.2) rfl rfl (by go_simp; rfl) ?_; clear hs0 hs1 hf0 hf1; have HPg6 := Aside0.mk (put2a_blk (x := a.1) (y := a.2) HBg6.out); have HQg6 := Aside0.mk (put2a_only w4 g6 a.1 a.2); generalize put2a w4 g6 a.1 a.2 = w9 at HPg6 HQg6 ⊢)))
  have r0 : w9.cell? ⟨g6, 0, none⟩ = some (.int .i64 a.1) := (blk_cell HPg6.out 0).trans rfl
  have r1 : w9.cell? ⟨g6, 1, none⟩ = some (.int .i64 a.2) := (blk_cell HPg6.out 1).trans rfl
  have hr := HR.out
  simp only [h8, Bool.false_and, Bool.false_eq_true, if_false] at hr
  subst hr
  exact bodyPost_ret (v := .tuple #[.agg #[.int .i64 a.1, .int .i64 a.2], .bool is]) (by simp [results, Try.results40, go_sem, r0, r1]) rfl ⟨rfl, HQg6.out.below HF4.out HG4.out.2⟩
 | true =>
  go_wp2
  have HD5 := Aside0.mk (HD4.out.below (below_drew (Below.refl _ _)))
  have s0 : w4.drew.cell? ⟨g, 15, none⟩ = some (.map (some gl)) := (blk_cell HD5.out.hg 15).trans rfl
  have s1 : w4.drew.cell? ⟨g5, 3, none⟩ = some (.int .i64 e.f3) := (blk_cell (w := w4.drew) HE4.out 3).trans rfl
  have hlk := HBB.out _ HD5.out
  refine start_ (n := 15) (S := fun w' => w'.cell? ⟨g, 15, none⟩ = some (.map (some gl)) ∧ w'.cell? ⟨g5, 3, none⟩ = some (.int .i64 e.f3) ∧ (Instr.lookup 76 (.map (some gl)) (.agg #[.int .i64 (u : Int), .int .i64 e.f3, .bool false]) true).run Try.prog w' = .ok (.tuple #[.agg #[.int .i64 b.1, .int .i64 b.2], .bool was]) w') (ds := [13]) (bl 15 0) (by kernel_rfl) rfl rfl ⟨s0, s1, hlk⟩ (fun hHeld => ?_)
  refine pure_ (i := 0) (N := some 28) (v := ?_) (a' := ?_) (bl 15 1) rfl rfl (by kernel_rfl) (fun _ _ _ h => h) (Or.inl ⟨by rfl, ?_⟩) ?_ ?_
  rotate_left
  · intro w'
    go_simp
    with_reducible rfl
  rotate_left
  · simp only [Act.put, List.setIfInBounds_toArray, List.set_cons_zero, List.set_cons_succ, i64_w, i32_w]
    rfl
  refine pure_ (i := 1) (N := some 29) (v := ?_) (a' := ?_) (bl 15 3) rfl rfl (by kernel_rfl) (fun _ _ _ h => h) (Or.inl ⟨by rfl, ?_⟩) ?_ ?_
  rotate_left
  · intro w'
    go_simp
    with_reducible rfl
  rotate_left
  · simp only [Act.put, List.setIfInBounds_toArray, List.set_cons_zero, List.set_cons_succ, i64_w, i32_w]
    rfl
  refine pure_ (i := 2) (N := some 30) (v := ?_) (a' := ?_) (bl 15 7) rfl rfl (by kernel_rfl) (fun _ _ _ h => h) (Or.inl ⟨by rfl, ?_⟩) ?_ ?_
  rotate_left
  · intro w'
    go_simp
    with_reducible rfl
  rotate_left
  · simp only [Act.put, List.setIfInBounds_toArray, List.set_cons_zero, List.set_cons_succ, i64_w, i32_w]
    rfl
  refine pure_ (i := 4) (N := some 32) (v := ?_) (a' := ?_) (bl 15 23) rfl rfl (by kernel_rfl) (fun _ _ _ h => h) (Or.inl ⟨by rfl, ?_⟩) ?_ ?_
  rotate_left
  · intro w'
    go_simp
    with_reducible rfl
  rotate_left
  · simp only [Act.put, List.setIfInBounds_toArray, List.set_cons_zero, List.set_cons_succ, i64_w, i32_w]
    rfl
  refine pure_ (i := 5) (N := some 33) (v := ?_) (a' := ?_) (bl 15 55) rfl rfl (by kernel_rfl) (fun _ _ _ h => h) (Or.inl ⟨by rfl, ?_⟩) ?_ ?_
  rotate_left
  · intro w'
    go_simp
    with_reducible rfl
  rotate_left
  · simp only [Act.put, List.setIfInBounds_toArray, List.set_cons_zero, List.set_cons_succ, i64_w, i32_w]
    rfl
  refine take_ (i := 3) (N := some 31) (v := ?_) (a' := ?_) (bl 15 63) rfl rfl (by kernel_rfl) (fun _ _ _ h => h) (Or.inl ⟨by rfl, ?_⟩) hHeld ?_ ?_
  rotate_left
  · rintro w' ⟨s0, s1, s2⟩
    go_simp
    with_reducible rfl
  rotate_left
  · simp only [Act.put, List.setIfInBounds_toArray, List.set_cons_zero, List.set_cons_succ, i64_w, i32_w]
    rfl
  refine take_ (i := 6) (N := some 34) (v := ?_) (a' := ?_) (bl 15 127) rfl rfl (by kernel_rfl) (fun _ _ _ h => h) (Or.inl ⟨by rfl, ?_⟩) hHeld ?_ ?_
  rotate_left
  · rintro w' ⟨s0, s1, s2⟩
    go_simp
    with_reducible rfl
  rotate_left
  · simp only [Act.put, List.setIfInBounds_toArray, List.set_cons_zero, List.set_cons_succ, i64_w, i32_w]
    rfl
  refine pure_ (i := 7) (N := some 35) (v := ?_) (a' := ?_) (bl 15 255) rfl rfl (by kernel_rfl) (fun _ _ _ h => h) (Or.inl ⟨by rfl, ?_⟩) ?_ ?_
  rotate_left
  · intro w'
    go_simp
    with_reducible rfl
  rotate_left
  · simp only [Act.put, List.setIfInBounds_toArray, List.set_cons_zero, List.set_cons_succ, i64_w, i32_w]
    rfl
  refine take_ (i := 8) (N := some 36) (v := ?_) (a' := ?_) (bl 15 511) rfl rfl (by kernel_rfl) (fun _ _ _ h => h) (Or.inl ⟨by rfl, ?_⟩) hHeld ?_ ?_
  rotate_left
  · rintro w' ⟨s0, s1, s2⟩
    go_simp
    with_reducible rfl
  rotate_left
  · simp only [Act.put, List.setIfInBounds_toArray, List.set_cons_zero, List.set_cons_succ, i64_w, i32_w]
    rfl
  refine pure_ (i := 9) (N := some 27) (v := ?_) (a' := ?_) (bl 15 1023) rfl rfl (by kernel_rfl) (fun _ _ _ h => h) (Or.inl ⟨by rfl, ?_⟩) ?_ ?_
  rotate_left
  · intro w'
    go_simp
    with_reducible rfl
  rotate_left
  · simp only [Act.put, List.setIfInBounds_toArray, List.set_cons_zero, List.set_cons_succ, i64_w, i32_w]
    rfl
  refine pure_ (i := 10) (N := some 37) (v := ?_) (a' := ?_) (bl 15 2047) rfl rfl (by kernel_rfl) (fun _ _ _ h => h) (Or.inl ⟨by rfl, ?_⟩) ?_ ?_
  rotate_left
  · intro w'
    go_simp
    with_reducible rfl
  rotate_left
  · simp only [Act.put, List.setIfInBounds_toArray, List.set_cons_zero, List.set_cons_succ, i64_w, i32_w]
    rfl
  refine pure_ (i := 11) (N := some 38) (v := ?_) (a' := ?_) (bl 15 4095) rfl rfl (by kernel_rfl) (fun _ _ _ h => h) (Or.inl ⟨by rfl, ?_⟩) ?_ ?_
  rotate_left
  · intro w'
    go_simp
    with_reducible rfl
  rotate_left
  · simp only [Act.put, List.setIfInBounds_toArray, List.set_cons_zero, List.set_cons_succ, i64_w, i32_w]
    rfl
  refine one_ (i := 12) (N := some 10) (bl 15 8191) rfl rfl (by kernel_rfl) (by decide) (fun K hK => ?_)
  refine box_step ?hg (N := 10) ?hd (cs := #[.int .i64 0, .int .i64 0]) (t := 93) ?hr ?_; (case hd => rfl); (case hg => rfl); (case hr => first | (go_simp; done) | (go_simp; rfl))
  intro g10 hg10 w5 hc10 hb10
  have HY10 := Aside0.mk hg10
  clear hg10
  have hl10 := HBB.out _ (HD5.out.below hb10)
  have hs0 : w5.cell? ⟨g10, 0, none⟩ = some (.int .i64 0) := (blk_cell hc10 0).trans rfl
  have hs1 : w5.cell? ⟨g10, 1, none⟩ = some (.int .i64 0) := (blk_cell hc10 1).trans rfl
  have hf0 : w5.frozen? ⟨g10, 0, none⟩ = false := blk_frozen hc10 0
  have hf1 : w5.frozen? ⟨g10, 1, none⟩ = false := blk_frozen hc10 1
  refine hK.out _ _ ⟨(pw_cell_below hb10 hHeld.1), (pw_cell_below hb10 hHeld.2.1), hl10⟩ (fun hHeld => ?_)
  clear hK K
  refine norm_ (a' := ?_) ?_ ?_
  rotate_left
  · show Act.put _ (some 10) _ = _
    simp only [Act.put, List.setIfInBounds_toArray, List.set_cons_zero, List.set_cons_succ, i64_w, i32_w]
    rfl
  refine last_ (i := 13) (N := none) (bl 15 16383) rfl rfl (by kernel_rfl) (by decide) (fun K hK => ?_)
  refine skip_ (w1 := put2a w5 g10 b.1 b.2) (by rfl) rfl ?_ ?_
  · go_simp
    rfl
  refine hK.out _ _ ?_
  clear hK K
  refine pure_ (i := 14) (N := some 11) (v := ?_) (a' := ?_) (bl 15 32767) rfl rfl (by kernel_rfl) (fun _ _ _ h => h) (Or.inl ⟨by rfl, ?_⟩) ?_ ?_
  rotate_left
  · intro w'
    go_simp
    with_reducible rfl
  rotate_left
  · simp only [Act.put, List.setIfInBounds_toArray, List.set_cons_zero, List.set_cons_succ, i64_w, i32_w]
    rfl
  refine done_ (by kernel_rfl) ?_
  have h46 : Below w4.drew.heap.size w4.drew (put2a w5 g10 b.1 b.2) := (put2a_only w5 g10 b.1 b.2).below hb10 (Nat.le_of_eq HY10.out.symm)
  have HF6 : Aside0 (Below w.heap.size w (put2a w5 g10 b.1 b.2)) := ⟨below_then (below_drew HF4.out) (below_drew HF4.out).size h46⟩
  have HZ6 : Aside0 ((put2a w5 g10 b.1 b.2).heap[g6]? = some (.cells #[.int .i64 0, .int .i64 0] 93 (0, 0))) := ⟨(h46.block g6 (blk_lt (w := w4.drew) HZ4.out)).trans HZ4.out⟩
  have HA6 : Aside0 (AccAt (put2a w5 g10 b.1 b.2) g8 a.1 a.2) := ⟨(h46.block g8 (blk_lt (w := w4.drew) HA4.out)).trans HA4.out⟩
  have HB6 : Aside0 (AccAt (put2a w5 g10 b.1 b.2) g10 b.1 b.2) := ⟨put2a_blk hc10⟩
  clear s0 s1 hlk hHeld u2 HF4 HD4 HE4 HZ4 HA4 hb10 HY10 hc10 h46 HD5 HBB
  try clear hs0 hs1 hf0 hf1
  generalize put2a w5 g10 b.1 b.2 = w6 at HF6 HZ6 HA6 HB6 ⊢
  have HBg6 := HZ6
  have a0 : w6.cell? ⟨g8, 0, none⟩ = some (.int .i64 a.1) := (blk_cell HA6.out 0).trans rfl
  have a1 : w6.cell? ⟨g8, 1, none⟩ = some (.int .i64 a.2) := (blk_cell HA6.out 1).trans rfl
  have b0 : w6.cell? ⟨g10, 0, none⟩ = some (.int .i64 b.1) := (blk_cell HB6.out 0).trans rfl
  have b1 : w6.cell? ⟨g10, 1, none⟩ = some (.int .i64 b.2) := (blk_cell HB6.out 1).trans rfl
  cases hw : was with
  | false =>
   subst hw
   go_wp2_with (first | ((with_reducible refine gate_store (t := 93) (p := 6) rfl ?_); go_must (have hs0 : w6.cell? ⟨g6, 0, none⟩ = some (.int .i64 0) := (blk_cell HBg6.out 0).trans rfl; have hf0 : w6.frozen? ⟨g6, 0, none⟩ = false := blk_frozen HBg6.out 0; have hs1 : w6.cell? ⟨g6, 1, none⟩ = some (.int .i64 0) := (blk_cell HBg6.out 1).trans rfl; have hf1 : w6.frozen? ⟨g6, 1, none⟩ = false := blk_frozen HBg6.out 1; refine skipL_ (w1 := put2a w6 g6 a.1 a.2) rfl rfl (by go_simp; rfl) ?_; clear hs0 hs1 hf0 hf1; have HPg6 := Aside0.mk (put2a_blk (x := a.1) (y := a.2) HBg6.out); have HQg6 := Aside0.mk (put2a_only w6 g6 a.1 a.2); generalize put2a w6 g6 a.1 a.2 = w9 at HPg6 HQg6 ⊢)))
   have r0 : w9.cell? ⟨g6, 0, none⟩ = some (.int .i64 a.1) := (blk_cell HPg6.out 0).trans rfl
   have r1 : w9.cell? ⟨g6, 1, none⟩ = some (.int .i64 a.2) := (blk_cell HPg6.out 1).trans rfl
   have hr := HR.out
   simp only [h8, Bool.true_and, Bool.false_and, Bool.and_false, Bool.and_true, Bool.not_true, Bool.not_false, Bool.true_or, Bool.false_or, Bool.or_false, Bool.false_eq_true, if_false, if_true, gt_iff_lt] at hr
   subst hr
   exact bodyPost_ret (v := .tuple #[.agg #[.int .i64 a.1, .int .i64 a.2], .bool is]) (by simp [results, Try.results40, go_sem, r0, r1]) rfl ⟨rfl, HQg6.out.below HF6.out HG4.out.2⟩
  | true =>
   subst hw
   cases hi : is with
   | false =>
    subst hi
    go_wp2_with (first | ((with_reducible refine gate_store (t := 93) (p := 6) rfl ?_); go_must (have hs0 : w6.cell? ⟨g6, 0, none⟩ = some (.int .i64 0) := (blk_cell HBg6.out 0).trans rfl; have hf0 : w6.frozen? ⟨g6, 0, none⟩ = false := blk_frozen HBg6.out 0; have hs1 : w6.cell? ⟨g6, 1, none⟩ = some (.int .i64 0) := (blk_cell HBg6.out 1).trans rfl; have hf1 : w6.frozen? ⟨g6, 1, none⟩ = false := blk_frozen HBg6.out 1; refine skipL_ (w1 := put2a w6 g6 b.1 b.2) rfl rfl (by go_simp; rfl) ?_; clear hs0 hs1 hf0 hf1; have HPg6 := Aside0.mk (put2a_blk (x := b.1) (y := b.2) HBg6.out); have HQg6 := Aside0.mk (put2a_only w6 g6 b.1 b.2); generalize put2a w6 g6 b.1 b.2 = w9 at HPg6 HQg6 ⊢)))
    have r0 : w9.cell? ⟨g6, 0, none⟩ = some (.int .i64 b.1) := (blk_cell HPg6.out 0).trans rfl
    have r1 : w9.cell? ⟨g6, 1, none⟩ = some (.int .i64 b.2) := (blk_cell HPg6.out 1).trans rfl
    have hr := HR.out
    simp only [h8, Bool.true_and, Bool.false_and, Bool.and_false, Bool.and_true, Bool.not_true, Bool.not_false, Bool.true_or, Bool.false_or, Bool.or_false, Bool.false_eq_true, if_false, if_true, gt_iff_lt] at hr
    subst hr
    exact bodyPost_ret (v := .tuple #[.agg #[.int .i64 b.1, .int .i64 b.2], .bool true]) (by simp [results, Try.results40, go_sem, r0, r1]) rfl ⟨rfl, HQg6.out.below HF6.out HG4.out.2⟩
   | true =>
    subst hi
    cases hd : decide (a.1 < b.1) with
    | true =>
     go_wp2_with (first | ((with_reducible refine gate_store (t := 93) (p := 6) rfl ?_); go_must (have hs0 : w6.cell? ⟨g6, 0, none⟩ = some (.int .i64 0) := (blk_cell HBg6.out 0).trans rfl; have hf0 : w6.frozen? ⟨g6, 0, none⟩ = false := blk_frozen HBg6.out 0; have hs1 : w6.cell? ⟨g6, 1, none⟩ = some (.int .i64 0) := (blk_cell HBg6.out 1).trans rfl; have hf1 : w6.frozen? ⟨g6, 1, none⟩ = false := blk_frozen HBg6.out 1; refine skipL_ (w1 := put2a w6 g6 b.1 b.2) rfl rfl (by go_simp; rfl) ?_; clear hs0 hs1 hf0 hf1; have HPg6 := Aside0.mk (put2a_blk (x := b.1) (y := b.2) HBg6.out); have HQg6 := Aside0.mk (put2a_only w6 g6 b.1 b.2); generalize put2a w6 g6 b.1 b.2 = w9 at HPg6 HQg6 ⊢)))
     have r0 : w9.cell? ⟨g6, 0, none⟩ = some (.int .i64 b.1) := (blk_cell HPg6.out 0).trans rfl
     have r1 : w9.cell? ⟨g6, 1, none⟩ = some (.int .i64 b.2) := (blk_cell HPg6.out 1).trans rfl
     have hr := HR.out
     simp only [h8, hd, Bool.true_and, Bool.false_and, Bool.and_false, Bool.and_true, Bool.not_true, Bool.not_false, Bool.true_or, Bool.false_or, Bool.or_false, Bool.false_eq_true, if_false, if_true, gt_iff_lt] at hr
     subst hr
     exact bodyPost_ret (v := .tuple #[.agg #[.int .i64 b.1, .int .i64 b.2], .bool true]) (by simp [results, Try.results40, go_sem, r0, r1]) rfl ⟨rfl, HQg6.out.below HF6.out HG4.out.2⟩
    | false =>
     go_wp2_with (first | ((with_reducible refine gate_store (t := 93) (p := 6) rfl ?_); go_must (have hs0 : w6.cell? ⟨g6, 0, none⟩ = some (.int .i64 0) := (blk_cell HBg6.out 0).trans rfl; have hf0 : w6.frozen? ⟨g6, 0, none⟩ = false := blk_frozen HBg6.out 0; have hs1 : w6.cell? ⟨g6, 1, none⟩ = some (.int .i64 0) := (blk_cell HBg6.out 1).trans rfl; have hf1 : w6.frozen? ⟨g6, 1, none⟩ = false := blk_frozen HBg6.out 1; refine skipL_ (w1 := put2a w6 g6 a.1 a.2) rfl rfl (by go_simp; rfl) ?_; clear hs0 hs1 hf0 hf1; have HPg6 := Aside0.mk (put2a_blk (x := a.1) (y := a.2) HBg6.out); have HQg6 := Aside0.mk (put2a_only w6 g6 a.1 a.2); generalize put2a w6 g6 a.1 a.2 = w9 at HPg6 HQg6 ⊢)))
     have r0 : w9.cell? ⟨g6, 0, none⟩ = some (.int .i64 a.1) := (blk_cell HPg6.out 0).trans rfl
     have r1 : w9.cell? ⟨g6, 1, none⟩ = some (.int .i64 a.2) := (blk_cell HPg6.out 1).trans rfl
     have hr := HR.out
     simp only [h8, hd, Bool.true_and, Bool.false_and, Bool.and_false, Bool.and_true, Bool.not_true, Bool.not_false, Bool.true_or, Bool.false_or, Bool.or_false, Bool.false_eq_true, if_false, if_true, gt_iff_lt] at hr
     subst hr
     exact bodyPost_ret (v := .tuple #[.agg #[.int .i64 a.1, .int .i64 a.2], .bool true]) (by simp [results, Try.results40, go_sem, r0, r1]) rfl ⟨rfl, HQg6.out.below HF6.out HG4.out.2⟩
end
end Go.Proofs.Ytblnimopffhocaa.P
