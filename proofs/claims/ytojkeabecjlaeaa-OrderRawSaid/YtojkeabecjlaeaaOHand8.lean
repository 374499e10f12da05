/- A trace with what is asked of channels and atoms counted: the function that makes it, walked. -/
import Derived.Test.YtojkeabecjlaeaaXBits
import Derived.Test.YtojkeabecjlaeaaOHand7
import Derived.Laws.EntriesVeiled
namespace Go.Proofs.Ytojkeabecjlaeaa.P
open Go.RowKit Go.Proofs.YtojkeabecjlaeaaW.PrintWords Go.Proofs.YtojkeabecjlaeaaW.PrintLast Go.Proofs.YtojkeabecjlaeaaW.PrintMore Go.Proofs.YtojkeabecjlaeaaX Go.ChangeMaps
set_option linter.unusedVariables false
set_option linter.unusedSimpArgs false
theorem infoI8 : (Try.prog.info? 3).map (fun i => (i.zero, i.size, i.bytes)) = some (some (.int .i64 0), 1, 8) := by kernel_rfl
section
variable {ops : Array Oper} {rest : List Oper} {o : Oper} {a : Act} {Q : Exit → Act → World → Prop} {Kc : Act → World → Prop}
theorem ints_step {W : World} (hw : Region.wanted o (yielded ops a.tmps) = true) (x y : Operand) (ho : o.op = .makeSlice 27 x y) {m : Nat} (hx : a.eval x = .int .i64 (m : Int)) (hy : a.eval y = .int .i64 (m : Int)) (hm : m ≤ 1000000000)
 (h : ∀ g, g = W.heap.size → ∀ w1, w1.heap[g]? = some (numsBlk (List.replicate m 0)) → Below W.heap.size W w1 → Kc (a.put o.dst (.slice (some ⟨g, 0, none⟩) m m)) w1) : if Region.wanted o (yielded ops a.tmps) = true then Oper.wp Try.prog o a W Kc Q else Kc (a.put o.dst undef) W := by
 obtain ⟨i0, hi, hzz⟩ := Option.map_eq_some_iff.1 infoI8
 simp only [Prod.mk.injEq] at hzz
 obtain ⟨hz0, hz1, hz2⟩ := hzz
 have hr := run_make (P := Try.prog) W 27 3 i0 (.int .i64 0) Try.underlying27 hi hz0 .i64 .i64 (m : Int) (m : Int) (by omega) (by omega) (by rw [hz2]; omega) (by omega)
 simp only [Int.toNat_natCast] at hr
 rw [hz1, Nat.mul_one] at hr
 refine make_step hw (m := m) ?_ h
 simp [execOp, ho, hx, hy, hr, Value.cells]
end
structure InvE (W wr : World) (g gl ga gm gn : Nat) (o : Obj) (pl la : List Int) (M : Bool × Int → Option Value) (N : Int → Option Value) (ge : Nat) (e : S24) : Prop where
 inv : Inv W wr g gl ga gm gn o pl la M N
 ev : EvAt wr ge e
 ne : ge ≠ gl ∧ ge ≠ ga ∧ ge ≠ gm ∧ ge ≠ gn
section
variable {W wr w1 : World} {g gl ga gm gn ge : Nat} {o : Obj} {pl la : List Int} {M : Bool × Int → Option Value} {N : Int → Option Value} {e : S24}
theorem InvE.below (h : InvE W wr g gl ga gm gn o pl la M N ge e) (hb : Below wr.heap.size wr w1) : InvE W w1 g gl ga gm gn o pl la M N ge e := ⟨h.inv.below hb, h.ev.below hb, h.ne⟩
theorem InvE.setPl (h : InvE W wr g gl ga gm gn o pl la M N ge e) (i : Nat) (x : Int) : InvE W (wr.setCell ⟨gl, i, none⟩ (.int .i64 x)) g gl ga gm gn o (pl.set i x) la M N ge e := ⟨h.inv.setPl i x, (Below.heap_setCell wr ⟨gl, i, none⟩ (.int .i64 x) ge h.ne.1).trans h.ev, h.ne⟩
theorem InvE.setLa (h : InvE W wr g gl ga gm gn o pl la M N ge e) (i : Nat) (x : Int) : InvE W (wr.setCell ⟨ga, i, none⟩ (.int .i64 x)) g gl ga gm gn o pl (la.set i x) M N ge e := ⟨h.inv.setLa i x, (Below.heap_setCell wr ⟨ga, i, none⟩ (.int .i64 x) ge h.ne.2.1).trans h.ev, h.ne⟩
theorem InvE.setM (h : InvE W wr g gl ga gm gn o pl la M N ge e) {o2 : Obj} {M2 : Bool × Int → Option Value} (hM2 : ∀ w2 : World, w2.heap[gm]? = some o2 → IsMap encK w2 gm M2) : InvE W (setBlock wr gm o2) g gl ga gm gn o pl la M2 N ge e := ⟨h.inv.setM hM2, (heap_setBlock_ne h.ne.2.2.1).trans h.ev, h.ne⟩
theorem InvE.setN (h : InvE W wr g gl ga gm gn o pl la M N ge e) {o2 : Obj} {N2 : Int → Option Value} (hN2 : ∀ w2 : World, w2.heap[gn]? = some o2 → IsMap encI w2 gn N2) : InvE W (setBlock wr gn o2) g gl ga gm gn o pl la M N2 ge e := ⟨h.inv.setN hN2, (heap_setBlock_ne h.ne.2.2.2).trans h.ev, h.ne⟩
theorem InvE.start {we : World} (h : Inv W wr g gl ga gm gn o pl la M N) (hb : we.heap[ge]? = some (.cells #[.int .i64 0, .int .i64 0, .int .u8 0, .int .i64 0, .int .i64 0, .int .i64 0] 24 (0, 0))) (hl : Below wr.heap.size wr we) (hg : ge = wr.heap.size) : InvE W (put6 we ge e) g gl ga gm gn o pl la M N ge e := by
 refine ⟨h.below (put6_below (e := e) hl (Nat.le_of_eq hg.symm)), put6_ev hb, ?_⟩
 have h1 := lt_of_blk h.hpl
 have h2 := lt_of_blk h.hla
 have h3 := h.hM.lt
 have h4 := h.hN.lt
 refine ⟨?_, ?_, ?_, ?_⟩ <;> omega
theorem MU_look {w : World} {t : List S24} {i : Nat} (h : IsMap encK w gm (MU t i)) (tk : Bool) (x : Int) : (Instr.lookup 76 (.map (some gm)) (.agg #[.bool tk, .int .i64 x]) false).run Try.prog w = .ok (.int .i64 (kcnt t i (tk, x) : Int)) w := by
 have h1 := lookup_run klK Try.underlying76 (.int .i64 0) zeroI h (tk, x)
 rw [MU_get] at h1
 exact h1
theorem NU_look {w : World} {t : List S24} {i : Nat} (h : IsMap encI w gn (NU t i)) (x : Int) : (Instr.lookup 77 (.map (some gn)) (.int .i64 x) true).run Try.prog w = .ok (.tuple #[.int .i64 (if lastU t i x < 0 then 0 else lastU t i x), .bool (!decide (lastU t i x < 0))]) w := by
 have h1 := lookup_ok_run klI Try.underlying77 (.int .i64 0) zeroI h x
 unfold NU at h1
 by_cases hl : lastU t i x < 0
 · rw [if_pos hl] at h1 ⊢
   rw [decide_eq_true hl]
   exact h1
 · rw [if_neg hl] at h1 ⊢
   rw [decide_eq_false hl]
   exact h1
end
set_option maxHeartbeats 4000000 in
set_option maxRecDepth 100000 in
theorem newTrace_any (W : World) (p0 p1 p2 p4 p5 : Int) (A3 : Option Addr) (n3 c3 : Nat) (A6 : Option Addr) (n6 c6 : Nat) (A1 : Option Addr) (c1 : Nat) (t : List S24) (hE : Kd.C k24 W A1 t.length t) (hm : t.length ≤ 1000000000) :
 Calls Try.prog 25 #[.agg #[.int .i64 p0, .int .i64 p1, .int .i64 p2, .slice A3 n3 c3, .int .i64 p4, .int .i64 p5, .slice A6 n6 c6], .slice A1 t.length c1] W fun e w' => ∃ g gl ga, e = .returned (.pointer (some ⟨g, 0, none⟩)) ∧
  w'.heap[g]? = some (trBlk p0 p1 p2 A3 n3 c3 p4 p5 A6 n6 c6 A1 t.length c1 (.slice (some ⟨gl, 0, none⟩) t.length t.length) (.slice (some ⟨ga, 0, none⟩) t.length t.length)) ∧
  w'.heap[gl]? = some (numsBlk (upTo (plU t) t.length t.length)) ∧ w'.heap[ga]? = some (numsBlk (upTo (laU t) t.length t.length)) ∧ Below W.heap.size W w' := by
 have HE := Aside0.mk hE
 have HM := Aside0.mk hm
 have hm' : (t.length : Int) ≤ 1000000000 := by omega
 have q0 : (0 : Int) ≤ (t.length : Int) := by omega
 clear hE hm
 go_enter Try.func25, Try.ntmps25
 go_wp2_with (first | ((with_reducible refine gate_dst (N := 2) rfl ?_); refine box_event ?hg (N := 2) ?hd (cs := #[.int .i64 p0, .int .i64 p1, .int .i64 p2, .slice A3 n3 c3, .int .i64 p4, .int .i64 p5, .slice A6 n6 c6]) (t := 30) ?hr ?_; (case hd => rfl); (case hg => rfl); (case hr => first | (go_simp; done) | (go_simp; rfl)); intro gp hgp wp hbp hbelp; have HBP := Aside0.mk hbp; have HLP := Aside0.mk hbelp; have HGP := Aside0.mk hgp; clear hbp hbelp hgp))
 have hp0 : wp.cell? ⟨gp, 0, none⟩ = some (.int .i64 p0) := (blk_cell HBP.out 0).trans rfl
 have hp1 : wp.cell? ⟨gp, 1, none⟩ = some (.int .i64 p1) := (blk_cell HBP.out 1).trans rfl
 have hp2 : wp.cell? ⟨gp, 2, none⟩ = some (.int .i64 p2) := (blk_cell HBP.out 2).trans rfl
 have hp3 : wp.cell? ⟨gp, 3, none⟩ = some (.slice A3 n3 c3) := (blk_cell HBP.out 3).trans rfl
 have hp4 : wp.cell? ⟨gp, 4, none⟩ = some (.int .i64 p4) := (blk_cell HBP.out 4).trans rfl
 have hp5 : wp.cell? ⟨gp, 5, none⟩ = some (.int .i64 p5) := (blk_cell HBP.out 5).trans rfl
 have hp6 : wp.cell? ⟨gp, 6, none⟩ = some (.slice A6 n6 c6) := (blk_cell HBP.out 6).trans rfl
 refine start_ (n := 11) (S := fun w' => w'.cell? ⟨gp, 0, none⟩ = some (.int .i64 p0) ∧ w'.cell? ⟨gp, 1, none⟩ = some (.int .i64 p1) ∧ w'.cell? ⟨gp, 2, none⟩ = some (.int .i64 p2) ∧ w'.cell? ⟨gp, 3, none⟩ = some (.slice A3 n3 c3) ∧ w'.cell? ⟨gp, 4, none⟩ = some (.int .i64 p4) ∧ w'.cell? ⟨gp, 5, none⟩ = some (.int .i64 p5) ∧ w'.cell? ⟨gp, 6, none⟩ = some (.slice A6 n6 c6)) (ds := []) (bl 11 0) (by kernel_rfl) rfl rfl ⟨hp0, hp1, hp2, hp3, hp4, hp5, hp6⟩ (fun hHeld => ?_)
 refine pure_ (i := 1) (N := some 14) (v := ?_) (a' := ?_) (bl 11 2) rfl rfl (by kernel_rfl) (fun _ _ _ h => h) (Or.inl ⟨by rfl, ?_⟩) ?_ ?_
 rotate_left
 · intro w'
   go_simp
   with_reducible rfl
 rotate_left
 · simp only [Act.put, List.setIfInBounds_toArray, List.set_cons_zero, List.set_cons_succ, i64_w, i32_w]
   rfl
 refine pure_ (i := 2) (N := some 15) (v := ?_) (a' := ?_) (bl 11 6) rfl rfl (by kernel_rfl) (fun _ _ _ h => h) (Or.inl ⟨by rfl, ?_⟩) ?_ ?_
 rotate_left
 · intro w'
   go_simp
   with_reducible rfl
 rotate_left
 · simp only [Act.put, List.setIfInBounds_toArray, List.set_cons_zero, List.set_cons_succ, i64_w, i32_w]
   rfl
 refine pure_ (i := 3) (N := some 16) (v := ?_) (a' := ?_) (bl 11 14) rfl rfl (by kernel_rfl) (fun _ _ _ h => h) (Or.inl ⟨by rfl, ?_⟩) ?_ ?_
 rotate_left
 · intro w'
   go_simp
   with_reducible rfl
 rotate_left
 · simp only [Act.put, List.setIfInBounds_toArray, List.set_cons_zero, List.set_cons_succ, i64_w, i32_w]
   rfl
 refine pure_ (i := 5) (N := some 18) (v := ?_) (a' := ?_) (bl 11 46) rfl rfl (by kernel_rfl) (fun _ _ _ h => h) (Or.inl ⟨by rfl, ?_⟩) ?_ ?_
 rotate_left
 · intro w'
   go_simp
   with_reducible rfl
 rotate_left
 · simp only [Act.put, List.setIfInBounds_toArray, List.set_cons_zero, List.set_cons_succ, i64_w, i32_w]
   rfl
 refine pure_ (i := 6) (N := some 19) (v := ?_) (a' := ?_) (bl 11 110) rfl rfl (by kernel_rfl) (fun _ _ _ h => h) (Or.inl ⟨by rfl, ?_⟩) ?_ ?_
 rotate_left
 · intro w'
   go_simp
   with_reducible rfl
 rotate_left
 · simp only [Act.put, List.setIfInBounds_toArray, List.set_cons_zero, List.set_cons_succ, i64_w, i32_w]
   rfl
 refine take_ (i := 0) (N := some 13) (v := ?_) (a' := ?_) (bl 11 111) rfl rfl (by kernel_rfl) (fun _ _ _ h => h) (Or.inl ⟨by rfl, ?_⟩) hHeld ?_ ?_
 rotate_left
 · rintro w' ⟨s0, s1, s2, s3, s4, s5, s6⟩
   go_simp
   with_reducible rfl
 rotate_left
 · simp only [Act.put, List.setIfInBounds_toArray, List.set_cons_zero, List.set_cons_succ, i64_w, i32_w]
   rfl
 refine join_ (σ := Nat × Nat) 3 (bl 11 255) (fun s => [(17, .slice (some ⟨s.1, 0, none⟩) t.length t.length), (20, .slice (some ⟨s.2, 0, none⟩) t.length t.length)]) (fun s w' => (s.1 ≠ s.2 ∧ w'.heap[s.1]? = some (numsBlk (List.replicate t.length 0)) ∧ w'.heap[s.2]? = some (numsBlk (List.replicate t.length 0)) ∧ Below W.heap.size W w' ∧ wp.heap.size ≤ s.1 ∧ wp.heap.size ≤ s.2) ∧ w'.cell? ⟨gp, 0, none⟩ = some (.int .i64 p0) ∧ w'.cell? ⟨gp, 1, none⟩ = some (.int .i64 p1) ∧ w'.cell? ⟨gp, 2, none⟩ = some (.int .i64 p2) ∧ w'.cell? ⟨gp, 3, none⟩ = some (.slice A3 n3 c3) ∧ w'.cell? ⟨gp, 4, none⟩ = some (.int .i64 p4) ∧ w'.cell? ⟨gp, 5, none⟩ = some (.int .i64 p5) ∧ w'.cell? ⟨gp, 6, none⟩ = some (.slice A6 n6 c6)) ?_ ?_
 rotate_left
 · intro hCont
   refine two_ (i := 4) (j := 7) (Ni := some 17) (Nj := some 20) (bl 11 127) (bl 11 239) rfl rfl rfl rfl (by kernel_rfl) (by decide) (by decide) (fun K hK => ?_) (fun K hK => ?_)
   · skip
     refine ints_step ?hw (.tmp 16) (.tmp 16) rfl (m := t.length) rfl rfl HM.out ?_; (case hw => rfl)
     intro gl hgl wl hbl hbell
     refine hK.out _ _ ⟨(pw_cell_below hbell (hHeld.1)), (pw_cell_below hbell (hHeld.2.1)), (pw_cell_below hbell (hHeld.2.2.1)), (pw_cell_below hbell (hHeld.2.2.2.1)), (pw_cell_below hbell (hHeld.2.2.2.2.1)), (pw_cell_below hbell (hHeld.2.2.2.2.2.1)), (pw_cell_below hbell (hHeld.2.2.2.2.2.2))⟩ (fun hHeld => ?_)
     clear hK K
     refine norm_ (a' := ?_) ?_ ?_
     rotate_left
     · show Act.put _ (some 17) _ = _
       simp only [Act.put, List.setIfInBounds_toArray, List.set_cons_zero, List.set_cons_succ, i64_w, i32_w]
       rfl
     refine one_ (i := 7) (N := some 20) (bl 11 255) rfl rfl (by kernel_rfl) (by decide) (fun K hK => ?_)
     refine ints_step ?hw (.tmp 19) (.tmp 19) rfl (m := t.length) rfl rfl HM.out ?_; (case hw => rfl)
     intro ga hga wa hba hbela
     refine hK.out _ _ ⟨(pw_cell_below hbela (hHeld.1)), (pw_cell_below hbela (hHeld.2.1)), (pw_cell_below hbela (hHeld.2.2.1)), (pw_cell_below hbela (hHeld.2.2.2.1)), (pw_cell_below hbela (hHeld.2.2.2.2.1)), (pw_cell_below hbela (hHeld.2.2.2.2.2.1)), (pw_cell_below hbela (hHeld.2.2.2.2.2.2))⟩ (fun hHeld => ?_)
     clear hK K
     refine norm_ (a' := ?_) ?_ ?_
     rotate_left
     · show Act.put _ (some 20) _ = _
       simp only [Act.put, List.setIfInBounds_toArray, List.set_cons_zero, List.set_cons_succ, i64_w, i32_w]
       rfl
     exact norm_ (by simp only [putAll, Act.put, List.setIfInBounds_toArray, List.set_cons_zero, List.set_cons_succ]) (hCont (gl, ga) _ ⟨⟨(by have := lt_of_blk hbl; omega), ((hbela.block gl (lt_of_blk hbl)).trans hbl), hba, (below_then (below_then (below_drew HLP.out) (below_drew HLP.out).size hbell) (below_then (below_drew HLP.out) (below_drew HLP.out).size hbell).size hbela), (by have : wp.drew.heap.size = wp.heap.size := rfl; have := hbell.size; omega), (by have : wp.drew.heap.size = wp.heap.size := rfl; have := hbell.size; omega)⟩, hHeld⟩)
   · skip
     refine ints_step ?hw (.tmp 19) (.tmp 19) rfl (m := t.length) rfl rfl HM.out ?_; (case hw => rfl)
     intro ga hga wa hba hbela
     refine hK.out _ _ ⟨(pw_cell_below hbela (hHeld.1)), (pw_cell_below hbela (hHeld.2.1)), (pw_cell_below hbela (hHeld.2.2.1)), (pw_cell_below hbela (hHeld.2.2.2.1)), (pw_cell_below hbela (hHeld.2.2.2.2.1)), (pw_cell_below hbela (hHeld.2.2.2.2.2.1)), (pw_cell_below hbela (hHeld.2.2.2.2.2.2))⟩ (fun hHeld => ?_)
     clear hK K
     refine norm_ (a' := ?_) ?_ ?_
     rotate_left
     · show Act.put _ (some 20) _ = _
       simp only [Act.put, List.setIfInBounds_toArray, List.set_cons_zero, List.set_cons_succ, i64_w, i32_w]
       rfl
     refine one_ (i := 4) (N := some 17) (bl 11 255) rfl rfl (by kernel_rfl) (by decide) (fun K hK => ?_)
     refine ints_step ?hw (.tmp 16) (.tmp 16) rfl (m := t.length) rfl rfl HM.out ?_; (case hw => rfl)
     intro gl hgl wl hbl hbell
     refine hK.out _ _ ⟨(pw_cell_below hbell (hHeld.1)), (pw_cell_below hbell (hHeld.2.1)), (pw_cell_below hbell (hHeld.2.2.1)), (pw_cell_below hbell (hHeld.2.2.2.1)), (pw_cell_below hbell (hHeld.2.2.2.2.1)), (pw_cell_below hbell (hHeld.2.2.2.2.2.1)), (pw_cell_below hbell (hHeld.2.2.2.2.2.2))⟩ (fun hHeld => ?_)
     clear hK K
     refine norm_ (a' := ?_) ?_ ?_
     rotate_left
     · show Act.put _ (some 17) _ = _
       simp only [Act.put, List.setIfInBounds_toArray, List.set_cons_zero, List.set_cons_succ, i64_w, i32_w]
       rfl
     exact norm_ (by simp only [putAll, Act.put, List.setIfInBounds_toArray, List.set_cons_zero, List.set_cons_succ]) (hCont (gl, ga) _ ⟨⟨(by have := lt_of_blk hba; omega), hbl, ((hbell.block ga (lt_of_blk hba)).trans hba), (below_then (below_then (below_drew HLP.out) (below_drew HLP.out).size hbela) (below_then (below_drew HLP.out) (below_drew HLP.out).size hbela).size hbell), (by have : wp.drew.heap.size = wp.heap.size := rfl; have := hbela.size; omega), (by have : wp.drew.heap.size = wp.heap.size := rfl; have := hbela.size; omega)⟩, hHeld⟩)
 rintro ⟨gl, ga⟩ w5 ⟨⟨hne, hbl, hba, hbel5, hgl, hga⟩, hHeld⟩
 dsimp only at hne hbl hba hgl hga
 refine norm_ (a' := ?_) ?_ ?_
 rotate_left
 · simp only [putAll, Act.put, List.setIfInBounds_toArray, List.set_cons_zero, List.set_cons_succ]
   rfl
 refine pure_ (i := 8) (N := some 21) (v := ?_) (a' := ?_) (bl 11 511) rfl rfl (by kernel_rfl) (fun _ _ _ h => h) (Or.inl ⟨by rfl, ?_⟩) ?_ ?_
 rotate_left
 · intro w'
   go_simp
   with_reducible rfl
 rotate_left
 · simp only [Act.put, List.setIfInBounds_toArray, List.set_cons_zero, List.set_cons_succ, i64_w, i32_w]
   rfl
 refine one_ (i := 9) (N := some 22) (bl 11 1023) rfl rfl (by kernel_rfl) (by decide) (fun K hK => ?_)
 refine box_step ?hg (N := 22) ?hd (cs := #[.int .i64 p0, .int .i64 p1, .int .i64 p2, .slice A3 n3 c3, .int .i64 p4, .int .i64 p5, .slice A6 n6 c6, .slice A1 t.length c1, .slice (some ⟨gl, 0, none⟩) t.length t.length, .slice (some ⟨ga, 0, none⟩) t.length t.length]) (t := 75) ?hr ?_; (case hd => rfl); (case hg => rfl); (case hr => first | (go_simp; done) | (go_simp; rfl))
 intro g hg w6 hbg hbel6
 have HGG := Aside0.mk hg
 clear hg
 refine hK.out _ _ ⟨(pw_cell_below hbel6 (hHeld.1)), (pw_cell_below hbel6 (hHeld.2.1)), (pw_cell_below hbel6 (hHeld.2.2.1)), (pw_cell_below hbel6 (hHeld.2.2.2.1)), (pw_cell_below hbel6 (hHeld.2.2.2.2.1)), (pw_cell_below hbel6 (hHeld.2.2.2.2.2.1)), (pw_cell_below hbel6 (hHeld.2.2.2.2.2.2))⟩ (fun hHeld => ?_)
 clear hK K
 refine norm_ (a' := ?_) ?_ ?_
 rotate_left
 · show Act.put _ (some 22) _ = _
   simp only [Act.put, List.setIfInBounds_toArray, List.set_cons_zero, List.set_cons_succ, i64_w, i32_w]
   rfl
 refine pure_ (i := 10) (N := some 5) (v := ?_) (a' := ?_) (bl 11 2047) rfl rfl (by kernel_rfl) (fun _ _ _ h => h) (Or.inl ⟨by rfl, ?_⟩) ?_ ?_
 rotate_left
 · intro w'
   go_simp
   with_reducible rfl
 rotate_left
 · simp only [Act.put, List.setIfInBounds_toArray, List.set_cons_zero, List.set_cons_succ, i64_w, i32_w]
   rfl
 refine done_ (by kernel_rfl) ?_
 have HB6 := Aside0.mk (below_then hbel5 hbel5.size hbel6)
 have HN : Aside0 (g ≠ gl ∧ g ≠ ga ∧ gl ≠ ga) := ⟨by have := HGG.out; have := lt_of_blk hbl; omega, by have := HGG.out; have := lt_of_blk hba; omega, hne⟩
 have HG : Aside0 (W.heap.size ≤ g ∧ W.heap.size ≤ gl ∧ W.heap.size ≤ ga ∧ gl < w6.heap.size ∧ ga < w6.heap.size ∧ g < w6.heap.size) := ⟨by have := HGG.out; have := HLP.out.size; have := hbel5.size; have := hbel6.size; have := lt_of_blk hbl; have := lt_of_blk hba; have := lt_of_blk hbg; omega⟩
 have Hl := Aside0.mk ((hbel6.block gl (lt_of_blk hbl)).trans hbl)
 have Ha := Aside0.mk ((hbel6.block ga (lt_of_blk hba)).trans hba)
 have Hg : Aside0 (w6.heap[g]? = some (trBlk p0 p1 p2 A3 n3 c3 p4 p5 A6 n6 c6 A1 t.length c1 (.slice (some ⟨gl, 0, none⟩) t.length t.length) (.slice (some ⟨ga, 0, none⟩) t.length t.length))) := ⟨hbg⟩
 clear hne hbl hba hbel5 hgl hga hbel6 hbg HGG hHeld HBP HLP HGP hp0 hp1 hp2 hp3 hp4 hp5 hp6
 go_wp2_with (first | ((with_reducible refine gate_dst (N := 23) rfl ?_); refine map_event ?hgd ?hr ?_; (case hgd => rfl); (case hr => first | (go_simp; done) | (go_simp; rfl)); intro gm hgm w7 hbm hbel7; have HBM := Aside0.mk hbm; have HL7 := Aside0.mk hbel7; have HGM := Aside0.mk hgm; clear hbm hbel7 hgm) | ((with_reducible refine gate_dst (N := 24) rfl ?_); refine map_event ?hgd ?hr ?_; (case hgd => rfl); (case hr => first | (go_simp; done) | (go_simp; rfl)); intro gn hgn w8 hbn hbel8; have HBN := Aside0.mk hbn; have HL8 := Aside0.mk hbel8; have HGN := Aside0.mk hgn; clear hbn hbel8 hgn))
 have HI0 : Aside0 (Inv W w8 g gl ga gm gn (trBlk p0 p1 p2 A3 n3 c3 p4 p5 A6 n6 c6 A1 t.length c1 (.slice (some ⟨gl, 0, none⟩) t.length t.length) (.slice (some ⟨ga, 0, none⟩) t.length t.length)) (upTo (plU t) t.length 0) (upTo (laU t) t.length 0) (MU t 0) (NU t 0)) := ⟨by
  have h78 := HL8.out
  have h67 := HL7.out
  have hg := HG.out
  have hn := HN.out
  have e1 := HGM.out
  have e2 := HGN.out
  have e3 := h67.size
  have e4 := lt_of_blk HBM.out
  rw [← upTo_zero, ← upTo_zero, MU_zero, NU_zero]
  exact ⟨below_then (below_then HB6.out HB6.out.size h67) (below_then HB6.out HB6.out.size h67).size h78, (h78.block _ (by omega)).trans ((h67.block _ (by omega)).trans Hg.out), (h78.block _ (by omega)).trans ((h67.block _ (by omega)).trans Hl.out), (h78.block _ (by omega)).trans ((h67.block _ (by omega)).trans Ha.out),
   (empty_map HBM.out).below h78, empty_map HBN.out, ⟨hn.1, hn.2.1, hn.2.2, by omega, by omega, by omega, by omega, by omega, by omega, by omega⟩, ⟨hg.1, hg.2.1, hg.2.2.1, by omega, by omega⟩⟩⟩
 clear HB6 HN HG Hl Ha Hg HBM HL7 HGM HBN HL8 HGN
 go_loopg [27] (t.length + 1) (fun kq v27 w' => ∃ i : Nat, v27 = .int .i64 (i : Int) ∧ Aside0 (kq + i = t.length + 1) ∧ Aside0 (i ≤ t.length) ∧ Aside0 (Inv W w' g gl ga gm gn (trBlk p0 p1 p2 A3 n3 c3 p4 p5 A6 n6 c6 A1 t.length c1 (.slice (some ⟨gl, 0, none⟩) t.length t.length) (.slice (some ⟨ga, 0, none⟩) t.length t.length)) (upTo (plU t) t.length i) (upTo (laU t) t.length i) (MU t i) (NU t i)))
 case atStart => exact ⟨0, rfl, ⟨by omega⟩, ⟨by omega⟩, HI0⟩
 case round =>
  obtain ⟨wi, rfl⟩ : ∃ wi : World, wi = wr := ⟨_, rfl⟩
  obtain ⟨i, rfl, HK, HLE0, HI⟩ := hrel
  clear HI0
  cases gk with
  | zero => exact absurd HK.out (by have := HLE0.out; omega)
  | succ k1 =>
   by_cases hi : i < t.length
   · have c0 : decide ((i : Int) < (t.length : Int)) = true := decide_eq_true (by omega)
     have p1 : (0 : Int) ≤ (i : Int) := by omega
     have p2 : (i : Int) < (t.length : Int) := by omega
     have HIN := Aside0.mk hi
     obtain ⟨ad, e', hx0, hx1, hx2, hx3, hx4, hx5⟩ := at_T24 (Kd.C_below HE.out HI.out.bel) (i : Int) (by omega) (by omega)
     subst e'
     simp only [rd_T24, Int.toNat_natCast] at hx0 hx1 hx2 hx3 hx4 hx5
     obtain ⟨e, hev⟩ : ∃ e, t.getD i z24 = e := ⟨_, rfl⟩
     rw [hev] at hx0 hx1 hx2 hx3 hx4 hx5
     have HEV := Aside0.mk hev
     obtain ⟨tk, htk⟩ : ∃ b, takesB e = b := ⟨_, rfl⟩
     have HTK := Aside0.mk htk
     clear hev htk hi
     cases h20 : e.f2 == 20 with
     | true =>
      have HGB : Aside0 (goesB e = true) := ⟨by unfold goesB; rw [h20]; rfl⟩
      go_wp2_with (first | ((with_reducible refine gate_dst (N := 9) rfl ?_); refine box_event ?hg (N := 9) ?hd (cs := #[.int .i64 0, .int .i64 0, .int .u8 0, .int .i64 0, .int .i64 0, .int .i64 0]) (t := 24) ?hr ?_; (case hd => rfl); (case hg => rfl); (case hr => first | (go_simp; done) | (go_simp; rfl)); intro ge hge we hbe hbele; have HBE := Aside0.mk hbe; have HLE := Aside0.mk hbele; have HGE := Aside0.mk hge; clear hbe hbele hge) | ((with_reducible refine gate_store (t := 24) (p := 9) rfl ?_); have hs0 : we.cell? ⟨ge, 0, none⟩ = some (.int .i64 0) := (blk_cell HBE.out 0).trans rfl; have hf0 : we.frozen? ⟨ge, 0, none⟩ = false := blk_frozen HBE.out 0; have hs1 : we.cell? ⟨ge, 1, none⟩ = some (.int .i64 0) := (blk_cell HBE.out 1).trans rfl; have hf1 : we.frozen? ⟨ge, 1, none⟩ = false := blk_frozen HBE.out 1; have hs2 : we.cell? ⟨ge, 2, none⟩ = some (.int .u8 0) := (blk_cell HBE.out 2).trans rfl; have hf2 : we.frozen? ⟨ge, 2, none⟩ = false := blk_frozen HBE.out 2; have hs3 : we.cell? ⟨ge, 3, none⟩ = some (.int .i64 0) := (blk_cell HBE.out 3).trans rfl; have hf3 : we.frozen? ⟨ge, 3, none⟩ = false := blk_frozen HBE.out 3; have hs4 : we.cell? ⟨ge, 4, none⟩ = some (.int .i64 0) := (blk_cell HBE.out 4).trans rfl; have hf4 : we.frozen? ⟨ge, 4, none⟩ = false := blk_frozen HBE.out 4; have hs5 : we.cell? ⟨ge, 5, none⟩ = some (.int .i64 0) := (blk_cell HBE.out 5).trans rfl; have hf5 : we.frozen? ⟨ge, 5, none⟩ = false := blk_frozen HBE.out 5; refine skipL_ (w1 := put6 we ge e) rfl rfl (by go_simp; rfl) ?_; clear hs0 hf0 hs1 hf1 hs2 hf2 hs3 hf3 hs4 hf4 hs5 hf5; have HV := Aside0.mk (InvE.start (e := e) HI.out HBE.out HLE.out HGE.out); generalize put6 we ge e = wv at HV ⊢; have v0 : wv.cell? ⟨ge, 0, none⟩ = some (.int .i64 e.f0) := (blk_cell HV.out.ev 0).trans rfl; have v1 : wv.cell? ⟨ge, 1, none⟩ = some (.int .i64 e.f1) := (blk_cell HV.out.ev 1).trans rfl; have v2 : wv.cell? ⟨ge, 2, none⟩ = some (.int .u8 e.f2) := (blk_cell HV.out.ev 2).trans rfl; have v3 : wv.cell? ⟨ge, 3, none⟩ = some (.int .i64 e.f3) := (blk_cell HV.out.ev 3).trans rfl; have v4 : wv.cell? ⟨ge, 4, none⟩ = some (.int .i64 e.f4) := (blk_cell HV.out.ev 4).trans rfl; have v5 : wv.cell? ⟨ge, 5, none⟩ = some (.int .i64 e.f5) := (blk_cell HV.out.ev 5).trans rfl))
      generalize wv = w9 at HV v0 v1 v2 v3 v4 v5 ⊢
      clear HBE HLE HGE HI
      have HV9 := HV
      refine start_ (n := 7) (S := fun w' => w'.cell? ⟨ge, 0, none⟩ = some (.int .i64 e.f0) ∧ w'.cell? ⟨ge, 1, none⟩ = some (.int .i64 e.f1) ∧ w'.cell? ⟨ge, 2, none⟩ = some (.int .u8 e.f2) ∧ w'.cell? ⟨ge, 3, none⟩ = some (.int .i64 e.f3) ∧ w'.cell? ⟨ge, 4, none⟩ = some (.int .i64 e.f4) ∧ w'.cell? ⟨ge, 5, none⟩ = some (.int .i64 e.f5)) (ds := [6]) (bl 7 0) (by kernel_rfl) rfl rfl ⟨v0, v1, v2, v3, v4, v5⟩ (fun hHeld => ?_)
      refine pure_ (i := 2) (N := some 41) (v := ?_) (a' := ?_) (bl 7 4) rfl rfl (by kernel_rfl) (fun _ _ _ h => h) (Or.inl ⟨by rfl, ?_⟩) ?_ ?_
      rotate_left
      · intro w'
        go_simp
        with_reducible rfl
      rotate_left
      · simp only [Act.put, List.setIfInBounds_toArray, List.set_cons_zero, List.set_cons_succ, i64_w, i32_w]
        rfl
      refine take_ (i := 0) (N := some 39) (v := ?_) (a' := ?_) (bl 7 5) rfl rfl (by kernel_rfl) (fun _ _ _ h => h) (Or.inl ⟨by rfl, ?_⟩) hHeld ?_ ?_
      rotate_left
      · rintro w' ⟨s0, s1, s2, s3, s4, s5⟩
        go_simp
        with_reducible rfl
      rotate_left
      · simp only [Act.put, List.setIfInBounds_toArray, List.set_cons_zero, List.set_cons_succ, i64_w, i32_w]
        rfl
      refine take_ (i := 3) (N := some 42) (v := ?_) (a' := ?_) (bl 7 13) rfl rfl (by kernel_rfl) (fun _ _ _ h => h) (Or.inl ⟨by rfl, ?_⟩) hHeld ?_ ?_
      rotate_left
      · rintro w' ⟨s0, s1, s2, s3, s4, s5⟩
        go_simp
        with_reducible rfl
      rotate_left
      · simp only [Act.put, List.setIfInBounds_toArray, List.set_cons_zero, List.set_cons_succ, i64_w, i32_w]
        rfl
      refine join_ (σ := Nat) 1 (bl 7 63) (fun s => [(40, .bool tk), (43, .agg #[.bool tk, .int .i64 e.f3]), (10, .pointer (some ⟨s, 0, none⟩))]) (fun s w' => (w'.heap[s]? = some (.cells #[.bool false, .int .i64 0] 79 (0, 0)) ∧ Below w9.heap.size w9 w' ∧ w9.heap.size ≤ s) ∧ w'.cell? ⟨ge, 0, none⟩ = some (.int .i64 e.f0) ∧ w'.cell? ⟨ge, 1, none⟩ = some (.int .i64 e.f1) ∧ w'.cell? ⟨ge, 2, none⟩ = some (.int .u8 e.f2) ∧ w'.cell? ⟨ge, 3, none⟩ = some (.int .i64 e.f3) ∧ w'.cell? ⟨ge, 4, none⟩ = some (.int .i64 e.f4) ∧ w'.cell? ⟨ge, 5, none⟩ = some (.int .i64 e.f5)) ?_ ?_
      rotate_left
      · intro hCont
        refine two_ (i := 1) (j := 5) (Ni := some 40) (Nj := some 10) (bl 7 15) (bl 7 45) rfl rfl rfl rfl (by kernel_rfl) (by decide) (by decide) (fun K hK => ?_) (fun K hK => ?_)
        · skip
          refine goes_ Try.func39 (by kernel_rfl) rfl #[.agg #[.int .i64 e.f0, .int .i64 e.f1, .int .u8 e.f2, .int .i64 e.f3, .int .i64 e.f4, .int .i64 e.f5]] (by rfl) rfl rfl (by simp only [List.map_toArray, List.map_cons, List.map_nil]; rfl) ?_
          with_reducible refine (takes_any _ e).mono ?_
          rintro e3 w3 ⟨he3, hbelc⟩
          rw [HTK.out] at he3
          subst he3
          refine ⟨_, rfl, ?_⟩
          refine hK.out _ _ ⟨(pw_cell_below hbelc (hHeld.1)), (pw_cell_below hbelc (hHeld.2.1)), (pw_cell_below hbelc (hHeld.2.2.1)), (pw_cell_below hbelc (hHeld.2.2.2.1)), (pw_cell_below hbelc (hHeld.2.2.2.2.1)), (pw_cell_below hbelc (hHeld.2.2.2.2.2))⟩ (fun hHeld => ?_)
          clear hK K
          refine norm_ (a' := ?_) ?_ ?_
          rotate_left
          · show Act.put _ (some 40) _ = _
            simp only [Act.put, List.setIfInBounds_toArray, List.set_cons_zero, List.set_cons_succ, i64_w, i32_w]
            rfl
          refine pure_ (i := 4) (N := some 43) (v := ?_) (a' := ?_) (bl 7 31) rfl rfl (by kernel_rfl) (fun _ _ _ h => h) (Or.inl ⟨by rfl, ?_⟩) ?_ ?_
          rotate_left
          · intro w'
            go_simp
            with_reducible rfl
          rotate_left
          · simp only [Act.put, List.setIfInBounds_toArray, List.set_cons_zero, List.set_cons_succ, i64_w, i32_w]
            rfl
          refine one_ (i := 5) (N := some 10) (bl 7 63) rfl rfl (by kernel_rfl) (by decide) (fun K hK => ?_)
          refine box_step ?hg (N := 10) ?hd (cs := #[.bool false, .int .i64 0]) (t := 79) ?hr ?_; (case hd => rfl); (case hg => rfl); (case hr => first | (go_simp; done) | (go_simp; rfl))
          intro gk hgk w4 hbk hbelk
          refine hK.out _ _ ⟨(pw_cell_below hbelk (hHeld.1)), (pw_cell_below hbelk (hHeld.2.1)), (pw_cell_below hbelk (hHeld.2.2.1)), (pw_cell_below hbelk (hHeld.2.2.2.1)), (pw_cell_below hbelk (hHeld.2.2.2.2.1)), (pw_cell_below hbelk (hHeld.2.2.2.2.2))⟩ (fun hHeld => ?_)
          clear hK K
          refine norm_ (a' := ?_) ?_ ?_
          rotate_left
          · show Act.put _ (some 10) _ = _
            simp only [Act.put, List.setIfInBounds_toArray, List.set_cons_zero, List.set_cons_succ, i64_w, i32_w]
            rfl
          exact norm_ (by simp only [putAll, Act.put, List.setIfInBounds_toArray, List.set_cons_zero, List.set_cons_succ]) (hCont gk _ ⟨⟨hbk, below_then (below_then (below_drew (Below.refl w9.heap.size w9)) (below_drew (Below.refl w9.heap.size w9)).size hbelc) (below_then (below_drew (Below.refl w9.heap.size w9)) (below_drew (Below.refl w9.heap.size w9)).size hbelc).size hbelk, (by have : w9.drew.heap.size = w9.heap.size := rfl; have := hbelc.size; omega)⟩, hHeld⟩)
        · skip
          refine box_step ?hg (N := 10) ?hd (cs := #[.bool false, .int .i64 0]) (t := 79) ?hr ?_; (case hd => rfl); (case hg => rfl); (case hr => first | (go_simp; done) | (go_simp; rfl))
          intro gk hgk w4 hbk hbelk
          refine hK.out _ _ ⟨(pw_cell_below hbelk (hHeld.1)), (pw_cell_below hbelk (hHeld.2.1)), (pw_cell_below hbelk (hHeld.2.2.1)), (pw_cell_below hbelk (hHeld.2.2.2.1)), (pw_cell_below hbelk (hHeld.2.2.2.2.1)), (pw_cell_below hbelk (hHeld.2.2.2.2.2))⟩ (fun hHeld => ?_)
          clear hK K
          refine norm_ (a' := ?_) ?_ ?_
          rotate_left
          · show Act.put _ (some 10) _ = _
            simp only [Act.put, List.setIfInBounds_toArray, List.set_cons_zero, List.set_cons_succ, i64_w, i32_w]
            rfl
          refine one_ (i := 1) (N := some 40) (bl 7 47) rfl rfl (by kernel_rfl) (by decide) (fun K hK => ?_)
          refine goes_ Try.func39 (by kernel_rfl) rfl #[.agg #[.int .i64 e.f0, .int .i64 e.f1, .int .u8 e.f2, .int .i64 e.f3, .int .i64 e.f4, .int .i64 e.f5]] (by rfl) rfl rfl (by simp only [List.map_toArray, List.map_cons, List.map_nil]; rfl) ?_
          with_reducible refine (takes_any _ e).mono ?_
          rintro e3 w3 ⟨he3, hbelc⟩
          rw [HTK.out] at he3
          subst he3
          refine ⟨_, rfl, ?_⟩
          refine hK.out _ _ ⟨(pw_cell_below hbelc (hHeld.1)), (pw_cell_below hbelc (hHeld.2.1)), (pw_cell_below hbelc (hHeld.2.2.1)), (pw_cell_below hbelc (hHeld.2.2.2.1)), (pw_cell_below hbelc (hHeld.2.2.2.2.1)), (pw_cell_below hbelc (hHeld.2.2.2.2.2))⟩ (fun hHeld => ?_)
          clear hK K
          refine norm_ (a' := ?_) ?_ ?_
          rotate_left
          · show Act.put _ (some 40) _ = _
            simp only [Act.put, List.setIfInBounds_toArray, List.set_cons_zero, List.set_cons_succ, i64_w, i32_w]
            rfl
          refine pure_ (i := 4) (N := some 43) (v := ?_) (a' := ?_) (bl 7 63) rfl rfl (by kernel_rfl) (fun _ _ _ h => h) (Or.inl ⟨by rfl, ?_⟩) ?_ ?_
          rotate_left
          · intro w'
            go_simp
            with_reducible rfl
          rotate_left
          · simp only [Act.put, List.setIfInBounds_toArray, List.set_cons_zero, List.set_cons_succ, i64_w, i32_w]
            rfl
          exact norm_ (by simp only [putAll, Act.put, List.setIfInBounds_toArray, List.set_cons_zero, List.set_cons_succ]) (hCont gk _ ⟨⟨((hbelc.block gk (lt_of_blk hbk)).trans hbk), below_then (below_then (below_drew (Below.refl w9.heap.size w9)) (below_drew (Below.refl w9.heap.size w9)).size hbelk) (below_then (below_drew (Below.refl w9.heap.size w9)) (below_drew (Below.refl w9.heap.size w9)).size hbelk).size hbelc, (by have : w9.drew.heap.size = w9.heap.size := rfl; have := hbelk.size; omega)⟩, hHeld⟩)
      rintro gk w5 ⟨⟨hbk, hbel5, hgk⟩, hHeld⟩
      refine norm_ (a' := ?_) ?_ ?_
      rotate_left
      · simp only [putAll, Act.put, List.setIfInBounds_toArray, List.set_cons_zero, List.set_cons_succ]
        rfl
      refine last_ (i := 6) (N := none) (bl 7 127) rfl rfl (by kernel_rfl) (by decide) (fun K hK => ?_)
      have hs0 : w5.cell? ⟨gk, 0, none⟩ = some (.bool false) := (blk_cell hbk 0).trans rfl
      have hf0 : w5.frozen? ⟨gk, 0, none⟩ = false := blk_frozen hbk 0
      have hs1 : w5.cell? ⟨gk, 1, none⟩ = some (.int .i64 0) := (blk_cell hbk 1).trans rfl
      have hf1 : w5.frozen? ⟨gk, 1, none⟩ = false := blk_frozen hbk 1
      refine skip_ (w1 := put2 w5 gk tk e.f3) (by rfl) rfl ?_ ?_
      · go_simp
        rfl
      clear hs0 hf0 hs1 hf1
      refine hK.out _ _ ?_
      clear hK K
      refine done_ (by kernel_rfl) ?_
      have HV7 := Aside0.mk (HV9.out.below (put2_below (tk := tk) (ob := e.f3) hbel5 hgk))
      have HK7 := Aside0.mk (put2_blk (tk := tk) (ob := e.f3) hbk)
      have HKN : Aside0 (gk ≠ gl ∧ gk ≠ gm) := ⟨by have h1 := lt_of_blk HV9.out.inv.hpl; have h2 := HV9.out.inv.hM.lt; constructor <;> omega⟩
      generalize put2 w5 gk tk e.f3 = w7 at HV7 HK7 ⊢
      clear hbel5 hgk hbk hHeld HV9 v0 v1 v2 v3 v4 v5
      obtain ⟨kc, hkc⟩ : ∃ n, kcnt t i (tk, e.f3) = n := ⟨_, rfl⟩
      have HKC := Aside0.mk hkc
      have kc1 : (kc : Int) ≤ 1000000000 := by have h1 := kcnt_le t i (tk, e.f3); have h2 := HIN.out; have h3 := HM.out; omega
      have kc0 : (0 : Int) ≤ (kc : Int) := by omega
      have hlk : (Instr.lookup 76 (.map (some gm)) (.agg #[.bool tk, .int .i64 e.f3]) false).run Try.prog w7.drew = .ok (.int .i64 (kc : Int)) w7.drew := by
       have h1 := MU_look ((HV7.out.inv.below (below_drew (Below.refl _ _))).hM) tk e.f3
       rw [hkc] at h1
       exact h1
      clear hkc
      have n1 : w7.drew.cell? ⟨gk, 0, none⟩ = some (.bool tk) := (blk_cell (w := w7.drew) HK7.out 0).trans rfl
      have n2 : w7.drew.cell? ⟨gk, 1, none⟩ = some (.int .i64 e.f3) := (blk_cell (w := w7.drew) HK7.out 1).trans rfl
      have n3 : w7.drew.cell? ⟨g, 8, none⟩ = some (.slice (some ⟨gl, 0, none⟩) t.length t.length) := (blk_cell (w := w7.drew) (HV7.out.inv.hg) 8).trans rfl
      have n4 : w7.drew.cell? ⟨gl, i, none⟩ = some (.int .i64 ((upTo (plU t) t.length i).getD i 0)) := numsBlk_cell (w := w7.drew) HV7.out.inv.hpl i (by rw [upTo_length]; exact HIN.out)
      have n5 : w7.drew.frozen? ⟨gl, i, none⟩ = false := numsBlk_frozen (w := w7.drew) HV7.out.inv.hpl i
      go_wp2
      refine start_ (n := 10) (S := fun w' => w'.cell? ⟨g, 8, none⟩ = some (.slice (some ⟨gl, 0, none⟩) t.length t.length) ∧ w'.cell? ⟨gk, 0, none⟩ = some (.bool tk) ∧ w'.cell? ⟨gk, 1, none⟩ = some (.int .i64 e.f3) ∧ (Instr.lookup 76 (.map (some gm)) (.agg #[.bool tk, .int .i64 e.f3]) false).run Try.prog w' = .ok (.int .i64 (kc : Int)) w') (ds := [9]) (bl 10 0) (by kernel_rfl) rfl rfl ⟨n3, n1, n2, hlk⟩ (fun hHeld => ?_)
      refine pure_ (i := 0) (N := some 44) (v := ?_) (a' := ?_) (bl 10 1) rfl rfl (by kernel_rfl) (fun _ _ _ h => h) (Or.inl ⟨by rfl, ?_⟩) ?_ ?_
      rotate_left
      · intro w'
        go_simp
        with_reducible rfl
      rotate_left
      · simp only [Act.put, List.setIfInBounds_toArray, List.set_cons_zero, List.set_cons_succ, i64_w, i32_w]
        rfl
      refine pure_ (i := 1) (N := some 45) (v := ?_) (a' := ?_) (bl 10 3) rfl rfl (by kernel_rfl) (fun _ _ _ h => h) (Or.inl ⟨by rfl, ?_⟩) ?_ ?_
      rotate_left
      · intro w'
        go_simp
        with_reducible rfl
      rotate_left
      · simp only [Act.put, List.setIfInBounds_toArray, List.set_cons_zero, List.set_cons_succ, i64_w, i32_w]
        rfl
      refine pure_ (i := 2) (N := some 46) (v := ?_) (a' := ?_) (bl 10 7) rfl rfl (by kernel_rfl) (fun _ _ _ h => h) (Or.inl ⟨by rfl, ?_⟩) ?_ ?_
      rotate_left
      · intro w'
        go_simp
        with_reducible rfl
      rotate_left
      · simp only [Act.put, List.setIfInBounds_toArray, List.set_cons_zero, List.set_cons_succ, i64_w, i32_w]
        rfl
      refine pure_ (i := 4) (N := some 48) (v := ?_) (a' := ?_) (bl 10 23) rfl rfl (by kernel_rfl) (fun _ _ _ h => h) (Or.inl ⟨by rfl, ?_⟩) ?_ ?_
      rotate_left
      · intro w'
        go_simp
        with_reducible rfl
      rotate_left
      · simp only [Act.put, List.setIfInBounds_toArray, List.set_cons_zero, List.set_cons_succ, i64_w, i32_w]
        rfl
      refine pure_ (i := 5) (N := some 49) (v := ?_) (a' := ?_) (bl 10 55) rfl rfl (by kernel_rfl) (fun _ _ _ h => h) (Or.inl ⟨by rfl, ?_⟩) ?_ ?_
      rotate_left
      · intro w'
        go_simp
        with_reducible rfl
      rotate_left
      · simp only [Act.put, List.setIfInBounds_toArray, List.set_cons_zero, List.set_cons_succ, i64_w, i32_w]
        rfl
      refine take_ (i := 3) (N := some 47) (v := ?_) (a' := ?_) (bl 10 63) rfl rfl (by kernel_rfl) (fun _ _ _ h => h) (Or.inl ⟨by rfl, ?_⟩) hHeld ?_ ?_
      rotate_left
      · rintro w' ⟨s0, s1, s2, s3⟩
        go_simp
        with_reducible rfl
      rotate_left
      · simp only [Act.put, List.setIfInBounds_toArray, List.set_cons_zero, List.set_cons_succ, i64_w, i32_w]
        rfl
      refine take_ (i := 6) (N := some 50) (v := ?_) (a' := ?_) (bl 10 127) rfl rfl (by kernel_rfl) (fun _ _ _ h => h) (Or.inl ⟨by rfl, ?_⟩) hHeld ?_ ?_
      rotate_left
      · rintro w' ⟨s0, s1, s2, s3⟩
        go_simp
        with_reducible rfl
      rotate_left
      · simp only [Act.put, List.setIfInBounds_toArray, List.set_cons_zero, List.set_cons_succ, i64_w, i32_w]
        rfl
      refine take_ (i := 7) (N := some 51) (v := ?_) (a' := ?_) (bl 10 255) rfl rfl (by kernel_rfl) (fun _ _ _ h => h) (Or.inl ⟨by rfl, ?_⟩) hHeld ?_ ?_
      rotate_left
      · rintro w' ⟨s0, s1, s2, s3⟩
        go_simp
        with_reducible rfl
      rotate_left
      · simp only [Act.put, List.setIfInBounds_toArray, List.set_cons_zero, List.set_cons_succ, i64_w, i32_w]
        rfl
      refine pure_ (i := 8) (N := some 52) (v := ?_) (a' := ?_) (bl 10 511) rfl rfl (by kernel_rfl) (fun _ _ _ h => h) (Or.inl ⟨by rfl, ?_⟩) ?_ ?_
      rotate_left
      · intro w'
        go_simp
        with_reducible rfl
      rotate_left
      · simp only [Act.put, List.setIfInBounds_toArray, List.set_cons_zero, List.set_cons_succ, i64_w, i32_w]
        rfl
      refine last_ (i := 9) (N := none) (bl 10 1023) rfl rfl (by kernel_rfl) (by decide) (fun K hK => ?_)
      refine skip_ (w1 := w7.drew.setCell ⟨gl, i, none⟩ (.int .i64 (kc : Int))) (by rfl) rfl ?_ ?_
      · go_simp
      refine hK.out _ _ ?_
      clear hK K
      refine done_ (by kernel_rfl) ?_
      have HV8 := Aside0.mk ((HV7.out.below (below_drew (Below.refl _ _))).setPl i (kc : Int))
      have HK8 : Aside0 ((w7.drew.setCell ⟨gl, i, none⟩ (.int .i64 (kc : Int))).heap[gk]? = some (.cells #[.bool tk, .int .i64 e.f3] 79 (0, 0))) := ⟨(Below.heap_setCell w7.drew ⟨gl, i, none⟩ (.int .i64 (kc : Int)) gk HKN.out.1).trans HK7.out⟩
      generalize w7.drew.setCell ⟨gl, i, none⟩ (.int .i64 (kc : Int)) = w8 at HV8 HK8 ⊢
      clear hlk n1 n2 n3 n4 n5 HV7 HK7 hHeld
      have hlk : (Instr.lookup 76 (.map (some gm)) (.agg #[.bool tk, .int .i64 e.f3]) false).run Try.prog w8.drew = .ok (.int .i64 (kc : Int)) w8.drew := by
       have h1 := MU_look ((HV8.out.inv.below (below_drew (Below.refl _ _))).hM) tk e.f3
       rw [HKC.out] at h1
       exact h1
      have n1 : w8.drew.cell? ⟨gk, 0, none⟩ = some (.bool tk) := (blk_cell (w := w8.drew) HK8.out 0).trans rfl
      have n2 : w8.drew.cell? ⟨gk, 1, none⟩ = some (.int .i64 e.f3) := (blk_cell (w := w8.drew) HK8.out 1).trans rfl
      obtain ⟨o1, st, hme, hM1, hM2⟩ := mapEntry_run klK Try.underlying76 (.int .i64 0) zeroI ((HV8.out.inv.below (below_drew (Below.refl _ _))).hM) (tk, e.f3)
      rw [MU_get, HKC.out] at hme hM1
      have hme' : (Instr.mapEntry 76 (.map (some gm)) (.agg #[.bool tk, .int .i64 e.f3])).run Try.prog w8.drew = .ok (.tuple #[.int .i64 (kc : Int), goInt st]) (setBlock w8.drew gm o1) := hme
      clear hme
      go_wp2
      refine start_ (n := 7) (S := fun w' => w'.cell? ⟨gk, 0, none⟩ = some (.bool tk) ∧ w'.cell? ⟨gk, 1, none⟩ = some (.int .i64 e.f3) ∧ (Instr.lookup 76 (.map (some gm)) (.agg #[.bool tk, .int .i64 e.f3]) false).run Try.prog w' = .ok (.int .i64 (kc : Int)) w') (ds := [6]) (bl 7 0) (by kernel_rfl) rfl rfl ⟨n1, n2, hlk⟩ (fun hHeld => ?_)
      refine pure_ (i := 0) (N := some 53) (v := ?_) (a' := ?_) (bl 7 1) rfl rfl (by kernel_rfl) (fun _ _ _ h => h) (Or.inl ⟨by rfl, ?_⟩) ?_ ?_
      rotate_left
      · intro w'
        go_simp
        with_reducible rfl
      rotate_left
      · simp only [Act.put, List.setIfInBounds_toArray, List.set_cons_zero, List.set_cons_succ, i64_w, i32_w]
        rfl
      refine take_ (i := 1) (N := some 54) (v := ?_) (a' := ?_) (bl 7 3) rfl rfl (by kernel_rfl) (fun _ _ _ h => h) (Or.inl ⟨by rfl, ?_⟩) hHeld ?_ ?_
      rotate_left
      · rintro w' ⟨s0, s1, s2⟩
        go_simp
        with_reducible rfl
      rotate_left
      · simp only [Act.put, List.setIfInBounds_toArray, List.set_cons_zero, List.set_cons_succ, i64_w, i32_w]
        rfl
      refine take_ (i := 2) (N := some 55) (v := ?_) (a' := ?_) (bl 7 7) rfl rfl (by kernel_rfl) (fun _ _ _ h => h) (Or.inl ⟨by rfl, ?_⟩) hHeld ?_ ?_
      rotate_left
      · rintro w' ⟨s0, s1, s2⟩
        go_simp
        with_reducible rfl
      rotate_left
      · simp only [Act.put, List.setIfInBounds_toArray, List.set_cons_zero, List.set_cons_succ, i64_w, i32_w]
        rfl
      refine pure_ (i := 3) (N := some 56) (v := ?_) (a' := ?_) (bl 7 15) rfl rfl (by kernel_rfl) (fun _ _ _ h => h) (Or.inl ⟨by rfl, ?_⟩) ?_ ?_
      rotate_left
      · intro w'
        go_simp
        with_reducible rfl
      rotate_left
      · simp only [Act.put, List.setIfInBounds_toArray, List.set_cons_zero, List.set_cons_succ, i64_w, i32_w]
        rfl
      refine one_ (i := 4) (N := some 57) (bl 7 31) rfl rfl (by kernel_rfl) (by decide) (fun K hK => ?_)
      refine value_ (w1 := setBlock w8.drew gm o1) (v := .tuple #[.int .i64 (kc : Int), goInt st]) (by rfl) rfl ?_ ?_
      · go_simp
      have HVa := Aside0.mk ((HV8.out.below (below_drew (Below.refl _ _))).setM hM1)
      have HKa : Aside0 ((setBlock w8.drew gm o1).heap[gk]? = some (.cells #[.bool tk, .int .i64 e.f3] 79 (0, 0))) := ⟨(heap_setBlock_ne HKN.out.2).trans HK8.out⟩
      obtain ⟨o2, hes, hM3⟩ := hM2 (setBlock w8.drew gm o1) (.int .i64 ((kc : Int) + 1)) (by obtain ⟨es, cl, hb, _⟩ := HV8.out.inv.hM; exact heap_setBlock (w := w8.drew) hb)
      have hlk2 : (Instr.lookup 76 (.map (some gm)) (.agg #[.bool tk, .int .i64 e.f3]) false).run Try.prog (setBlock w8.drew gm o1) = .ok (.int .i64 (kc : Int)) (setBlock w8.drew gm o1) := (lookup_run klK Try.underlying76 (.int .i64 0) zeroI HVa.out.inv.hM (tk, e.f3)).trans (by simp [upd])
      generalize setBlock w8.drew gm o1 = wa at HVa HKa hes hlk2 ⊢
      clear hme' hM1 hM2
      refine hK.out _ _ ⟨((blk_cell HKa.out 0).trans rfl), ((blk_cell HKa.out 1).trans rfl), hlk2⟩ (fun hHeld => ?_)
      clear hK K
      refine norm_ (a' := ?_) ?_ ?_
      rotate_left
      · show Act.put _ (some 57) _ = _
        simp only [Act.put, List.setIfInBounds_toArray, List.set_cons_zero, List.set_cons_succ, i64_w, i32_w]
        rfl
      refine pure_ (i := 5) (N := some 58) (v := ?_) (a' := ?_) (bl 7 63) rfl rfl (by kernel_rfl) (fun _ _ _ h => h) (Or.inl ⟨by rfl, ?_⟩) ?_ ?_
      rotate_left
      · intro w'
        go_simp
        with_reducible rfl
      rotate_left
      · simp only [Act.put, List.setIfInBounds_toArray, List.set_cons_zero, List.set_cons_succ, i64_w, i32_w]
        rfl
      refine last_ (i := 6) (N := none) (bl 7 127) rfl rfl (by kernel_rfl) (by decide) (fun K hK => ?_)
      refine skip_ (w1 := setBlock wa gm o2) (by rfl) rfl ?_ ?_
      · go_simp
        rw [show wrap64 ((kc : Int) + 1) = (kc : Int) + 1 from by unfold wrap64; omega, show Value.int IntKind.i64 st = goInt st from rfl, hes]
        rfl
      refine hK.out _ _ ?_
      clear hK K
      refine done_ (by kernel_rfl) ?_
      have hup : upd (MU t i) (tk, e.f3) (.int .i64 ((kc : Int) + 1)) = MU t (i + 1) := by
       have h1 := MU_goes t i HIN.out (by rw [HEV.out]; exact HGB.out)
       rw [HEV.out, show keyB e = (tk, e.f3) from by unfold keyB; rw [HTK.out], HKC.out] at h1
       exact h1
      have hpl : (upTo (plU t) t.length i).set i (kc : Int) = upTo (plU t) t.length (i + 1) := by
       rw [← upTo_set _ _ _ HIN.out]
       congr 1
       unfold plU
       rw [HEV.out, if_pos HGB.out, show keyB e = (tk, e.f3) from by unfold keyB; rw [HTK.out], HKC.out]
      have HVt := Aside0.mk (HVa.out.setM hM3)
      rw [hpl, hup] at HVt
      generalize setBlock wa gm o2 = wt at HVt ⊢
      clear HVa HKa hes hlk2 hM3 hlk n1 n2 hup hpl HV8 HK8 HKN HKC hHeld kc0 kc1 h20
      have a2 : wt.cell? ⟨ge, 2, none⟩ = some (.int .u8 e.f2) := (blk_cell HVt.out.ev 2).trans rfl
      have a3 : wt.cell? ⟨ge, 3, none⟩ = some (.int .i64 e.f3) := (blk_cell HVt.out.ev 3).trans rfl
      have a9 : wt.cell? ⟨g, 9, none⟩ = some (.slice (some ⟨ga, 0, none⟩) t.length t.length) := (blk_cell HVt.out.inv.hg 9).trans rfl
      have ac : wt.cell? ⟨ga, i, none⟩ = some (.int .i64 ((upTo (laU t) t.length i).getD i 0)) := numsBlk_cell HVt.out.inv.hla i (by simp only [List.length_set, upTo_length]; exact HIN.out)
      have af : wt.frozen? ⟨ga, i, none⟩ = false := numsBlk_frozen HVt.out.inv.hla i
      by_cases hl : lastU t i e.f3 < 0
      · have HLK := Aside0.mk hl
        have HLA : Aside0 (((upTo (laU t) t.length i).set i (-1)) = upTo (laU t) t.length (i + 1)) := ⟨by rw [← upTo_set _ _ _ HIN.out]; congr 1; unfold laU; rw [HEV.out]; have := lastU_lo t e.f3 i; have := HLK.out; omega⟩
        clear hl
        cases h18 : e.f2 == 18 with
        | true =>
         have HW : Aside0 (wrB (t.getD i z24) = true) := ⟨by rw [HEV.out]; unfold wrB; rw [h18]; rfl⟩
         go_wp2_with (first | ((with_reducible refine gate_store (t := 3) (p := 64) rfl ?_); refine skipL_ (w1 := wt.setCell ⟨ga, i, none⟩ (.int .i64 (-1))) rfl rfl (by first | (go_simp; done) | (go_simp; rfl)) ?_; have HVu := Aside0.mk (HVt.out.setLa i (-1)); clear a2 a3 a9 ac af; generalize wt.setCell ⟨ga, i, none⟩ (.int .i64 (-1)) = wu at HVu ⊢; have b2 : wu.cell? ⟨ge, 2, none⟩ = some (.int .u8 e.f2) := (blk_cell HVu.out.ev 2).trans rfl; have b3 : wu.cell? ⟨ge, 3, none⟩ = some (.int .i64 e.f3) := (blk_cell HVu.out.ev 3).trans rfl; have b9 : wu.cell? ⟨g, 9, none⟩ = some (.slice (some ⟨ga, 0, none⟩) t.length t.length) := (blk_cell HVu.out.inv.hg 9).trans rfl; have bc : wu.cell? ⟨ga, i, none⟩ = some (.int .i64 (((upTo (laU t) t.length i).set i (-1)).getD i 0)) := numsBlk_cell HVu.out.inv.hla i (by simp only [List.length_set, upTo_length]; exact HIN.out); have bf : wu.frozen? ⟨ga, i, none⟩ = false := numsBlk_frozen HVu.out.inv.hla i; have hlk : (Instr.lookup 77 (.map (some gn)) (.int .i64 e.f3) true).run Try.prog wu = .ok (.tuple #[.int .i64 0, .bool false]) wu := (by have h1 := NU_look HVu.out.inv.hN e.f3; rw [if_pos HLK.out, decide_eq_true HLK.out] at h1; exact h1)) | ((with_reducible refine gate_update (t := 77) (x := 88) (y := 90) (z := 91) rfl ?_); obtain ⟨o3, hmu, hN3⟩ := mapUpdate_run klI Try.underlying77 HVu.out.inv.hN e.f3 (.int .i64 (i : Int)); have hmu' : (Instr.mapUpdate 77 (.map (some gn)) (.int .i64 e.f3) (.int .i64 (i : Int))).run Try.prog wu = .ok () (setBlock wu gn o3) := hmu; refine skipL_ (w1 := setBlock wu gn o3) rfl rfl (by first | (go_simp; done) | (go_simp; rfl)) ?_; have HVy := Aside0.mk (HVu.out.setN hN3); clear hmu hmu' hN3; generalize setBlock wu gn o3 = wy at HVy ⊢))
         go_roundg k1
         case measure => omega
         case rel => exact ⟨i + 1, by go_num, ⟨by have := HK.out; omega⟩, ⟨by have := HIN.out; omega⟩, ⟨by
          have h1 := HVy.out.inv
          have h2 := NU_write t i HW.out
          rw [HEV.out] at h2
          rw [HLA.out, h2] at h1
          exact h1⟩⟩
        | false =>
         cases h19 : e.f2 == 19 with
         | true =>
          have HW : Aside0 (wrB (t.getD i z24) = true) := ⟨by rw [HEV.out]; unfold wrB; rw [h18, h19]; rfl⟩
          go_wp2_with (first | ((with_reducible refine gate_store (t := 3) (p := 64) rfl ?_); refine skipL_ (w1 := wt.setCell ⟨ga, i, none⟩ (.int .i64 (-1))) rfl rfl (by first | (go_simp; done) | (go_simp; rfl)) ?_; have HVu := Aside0.mk (HVt.out.setLa i (-1)); clear a2 a3 a9 ac af; generalize wt.setCell ⟨ga, i, none⟩ (.int .i64 (-1)) = wu at HVu ⊢; have b2 : wu.cell? ⟨ge, 2, none⟩ = some (.int .u8 e.f2) := (blk_cell HVu.out.ev 2).trans rfl; have b3 : wu.cell? ⟨ge, 3, none⟩ = some (.int .i64 e.f3) := (blk_cell HVu.out.ev 3).trans rfl; have b9 : wu.cell? ⟨g, 9, none⟩ = some (.slice (some ⟨ga, 0, none⟩) t.length t.length) := (blk_cell HVu.out.inv.hg 9).trans rfl; have bc : wu.cell? ⟨ga, i, none⟩ = some (.int .i64 (((upTo (laU t) t.length i).set i (-1)).getD i 0)) := numsBlk_cell HVu.out.inv.hla i (by simp only [List.length_set, upTo_length]; exact HIN.out); have bf : wu.frozen? ⟨ga, i, none⟩ = false := numsBlk_frozen HVu.out.inv.hla i; have hlk : (Instr.lookup 77 (.map (some gn)) (.int .i64 e.f3) true).run Try.prog wu = .ok (.tuple #[.int .i64 0, .bool false]) wu := (by have h1 := NU_look HVu.out.inv.hN e.f3; rw [if_pos HLK.out, decide_eq_true HLK.out] at h1; exact h1)) | ((with_reducible refine gate_update (t := 77) (x := 88) (y := 90) (z := 91) rfl ?_); obtain ⟨o3, hmu, hN3⟩ := mapUpdate_run klI Try.underlying77 HVu.out.inv.hN e.f3 (.int .i64 (i : Int)); have hmu' : (Instr.mapUpdate 77 (.map (some gn)) (.int .i64 e.f3) (.int .i64 (i : Int))).run Try.prog wu = .ok () (setBlock wu gn o3) := hmu; refine skipL_ (w1 := setBlock wu gn o3) rfl rfl (by first | (go_simp; done) | (go_simp; rfl)) ?_; have HVy := Aside0.mk (HVu.out.setN hN3); clear hmu hmu' hN3; generalize setBlock wu gn o3 = wy at HVy ⊢))
          go_roundg k1
          case measure => omega
          case rel => exact ⟨i + 1, by go_num, ⟨by have := HK.out; omega⟩, ⟨by have := HIN.out; omega⟩, ⟨by
           have h1 := HVy.out.inv
           have h2 := NU_write t i HW.out
           rw [HEV.out] at h2
           rw [HLA.out, h2] at h1
           exact h1⟩⟩
         | false =>
          have HW : Aside0 (wrB (t.getD i z24) = false) := ⟨by rw [HEV.out]; unfold wrB; rw [h18, h19]; rfl⟩
          go_wp2_with (first | ((with_reducible refine gate_store (t := 3) (p := 64) rfl ?_); refine skipL_ (w1 := wt.setCell ⟨ga, i, none⟩ (.int .i64 (-1))) rfl rfl (by first | (go_simp; done) | (go_simp; rfl)) ?_; have HVu := Aside0.mk (HVt.out.setLa i (-1)); clear a2 a3 a9 ac af; generalize wt.setCell ⟨ga, i, none⟩ (.int .i64 (-1)) = wu at HVu ⊢; have b2 : wu.cell? ⟨ge, 2, none⟩ = some (.int .u8 e.f2) := (blk_cell HVu.out.ev 2).trans rfl; have b3 : wu.cell? ⟨ge, 3, none⟩ = some (.int .i64 e.f3) := (blk_cell HVu.out.ev 3).trans rfl; have b9 : wu.cell? ⟨g, 9, none⟩ = some (.slice (some ⟨ga, 0, none⟩) t.length t.length) := (blk_cell HVu.out.inv.hg 9).trans rfl; have bc : wu.cell? ⟨ga, i, none⟩ = some (.int .i64 (((upTo (laU t) t.length i).set i (-1)).getD i 0)) := numsBlk_cell HVu.out.inv.hla i (by simp only [List.length_set, upTo_length]; exact HIN.out); have bf : wu.frozen? ⟨ga, i, none⟩ = false := numsBlk_frozen HVu.out.inv.hla i; have hlk : (Instr.lookup 77 (.map (some gn)) (.int .i64 e.f3) true).run Try.prog wu = .ok (.tuple #[.int .i64 0, .bool false]) wu := (by have h1 := NU_look HVu.out.inv.hN e.f3; rw [if_pos HLK.out, decide_eq_true HLK.out] at h1; exact h1)))
          go_roundg k1
          case measure => omega
          case rel => exact ⟨i + 1, by go_num, ⟨by have := HK.out; omega⟩, ⟨by have := HIN.out; omega⟩, ⟨by
           have h1 := HVu.out.inv
           have h2 := NU_skip t i HW.out
           rw [HLA.out, h2] at h1
           exact h1⟩⟩
      · obtain ⟨lu, hlu⟩ : ∃ x, lastU t i e.f3 = x := ⟨_, rfl⟩
        have HLU := Aside0.mk hlu
        have HLK := Aside0.mk hl
        have HLA : Aside0 (((upTo (laU t) t.length i).set i (-1)).set i lu = upTo (laU t) t.length (i + 1)) := ⟨by rw [List.set_set, ← upTo_set _ _ _ HIN.out]; congr 1; unfold laU; rw [HEV.out]; exact HLU.out.symm⟩
        clear hl hlu
        cases h18 : e.f2 == 18 with
        | true =>
         have HW : Aside0 (wrB (t.getD i z24) = true) := ⟨by rw [HEV.out]; unfold wrB; rw [h18]; rfl⟩
         go_wp2_with (first | ((with_reducible refine gate_store (t := 3) (p := 64) rfl ?_); refine skipL_ (w1 := wt.setCell ⟨ga, i, none⟩ (.int .i64 (-1))) rfl rfl (by first | (go_simp; done) | (go_simp; rfl)) ?_; have HVu := Aside0.mk (HVt.out.setLa i (-1)); clear a2 a3 a9 ac af; generalize wt.setCell ⟨ga, i, none⟩ (.int .i64 (-1)) = wu at HVu ⊢; have b2 : wu.cell? ⟨ge, 2, none⟩ = some (.int .u8 e.f2) := (blk_cell HVu.out.ev 2).trans rfl; have b3 : wu.cell? ⟨ge, 3, none⟩ = some (.int .i64 e.f3) := (blk_cell HVu.out.ev 3).trans rfl; have b9 : wu.cell? ⟨g, 9, none⟩ = some (.slice (some ⟨ga, 0, none⟩) t.length t.length) := (blk_cell HVu.out.inv.hg 9).trans rfl; have bc : wu.cell? ⟨ga, i, none⟩ = some (.int .i64 (((upTo (laU t) t.length i).set i (-1)).getD i 0)) := numsBlk_cell HVu.out.inv.hla i (by simp only [List.length_set, upTo_length]; exact HIN.out); have bf : wu.frozen? ⟨ga, i, none⟩ = false := numsBlk_frozen HVu.out.inv.hla i; have hlk : (Instr.lookup 77 (.map (some gn)) (.int .i64 e.f3) true).run Try.prog wu = .ok (.tuple #[.int .i64 lu, .bool true]) wu := (by have h1 := NU_look HVu.out.inv.hN e.f3; rw [if_neg HLK.out, decide_eq_false HLK.out, HLU.out] at h1; exact h1)) | ((with_reducible refine gate_store (t := 3) (p := 79) rfl ?_); refine skipL_ (w1 := wu.setCell ⟨ga, i, none⟩ (.int .i64 lu)) rfl rfl (by first | (go_simp; done) | (go_simp; rfl)) ?_; have HVv := Aside0.mk (HVu.out.setLa i lu); clear b2 b3 b9 bc bf; generalize wu.setCell ⟨ga, i, none⟩ (.int .i64 lu) = wv at HVv ⊢; have c2 : wv.cell? ⟨ge, 2, none⟩ = some (.int .u8 e.f2) := (blk_cell HVv.out.ev 2).trans rfl; have c3 : wv.cell? ⟨ge, 3, none⟩ = some (.int .i64 e.f3) := (blk_cell HVv.out.ev 3).trans rfl; have c9 : wv.cell? ⟨g, 9, none⟩ = some (.slice (some ⟨ga, 0, none⟩) t.length t.length) := (blk_cell HVv.out.inv.hg 9).trans rfl) | ((with_reducible refine gate_update (t := 77) (x := 88) (y := 90) (z := 91) rfl ?_); obtain ⟨o3, hmu, hN3⟩ := mapUpdate_run klI Try.underlying77 HVv.out.inv.hN e.f3 (.int .i64 (i : Int)); have hmu' : (Instr.mapUpdate 77 (.map (some gn)) (.int .i64 e.f3) (.int .i64 (i : Int))).run Try.prog wv = .ok () (setBlock wv gn o3) := hmu; refine skipL_ (w1 := setBlock wv gn o3) rfl rfl (by first | (go_simp; done) | (go_simp; rfl)) ?_; have HVy := Aside0.mk (HVv.out.setN hN3); clear hmu hmu' hN3; generalize setBlock wv gn o3 = wy at HVy ⊢))
         go_roundg k1
         case measure => omega
         case rel => exact ⟨i + 1, by go_num, ⟨by have := HK.out; omega⟩, ⟨by have := HIN.out; omega⟩, ⟨by
          have h1 := HVy.out.inv
          have h2 := NU_write t i HW.out
          rw [HEV.out] at h2
          rw [HLA.out, h2] at h1
          exact h1⟩⟩
        | false =>
         cases h19 : e.f2 == 19 with
         | true =>
          have HW : Aside0 (wrB (t.getD i z24) = true) := ⟨by rw [HEV.out]; unfold wrB; rw [h18, h19]; rfl⟩
          go_wp2_with (first | ((with_reducible refine gate_store (t := 3) (p := 64) rfl ?_); refine skipL_ (w1 := wt.setCell ⟨ga, i, none⟩ (.int .i64 (-1))) rfl rfl (by first | (go_simp; done) | (go_simp; rfl)) ?_; have HVu := Aside0.mk (HVt.out.setLa i (-1)); clear a2 a3 a9 ac af; generalize wt.setCell ⟨ga, i, none⟩ (.int .i64 (-1)) = wu at HVu ⊢; have b2 : wu.cell? ⟨ge, 2, none⟩ = some (.int .u8 e.f2) := (blk_cell HVu.out.ev 2).trans rfl; have b3 : wu.cell? ⟨ge, 3, none⟩ = some (.int .i64 e.f3) := (blk_cell HVu.out.ev 3).trans rfl; have b9 : wu.cell? ⟨g, 9, none⟩ = some (.slice (some ⟨ga, 0, none⟩) t.length t.length) := (blk_cell HVu.out.inv.hg 9).trans rfl; have bc : wu.cell? ⟨ga, i, none⟩ = some (.int .i64 (((upTo (laU t) t.length i).set i (-1)).getD i 0)) := numsBlk_cell HVu.out.inv.hla i (by simp only [List.length_set, upTo_length]; exact HIN.out); have bf : wu.frozen? ⟨ga, i, none⟩ = false := numsBlk_frozen HVu.out.inv.hla i; have hlk : (Instr.lookup 77 (.map (some gn)) (.int .i64 e.f3) true).run Try.prog wu = .ok (.tuple #[.int .i64 lu, .bool true]) wu := (by have h1 := NU_look HVu.out.inv.hN e.f3; rw [if_neg HLK.out, decide_eq_false HLK.out, HLU.out] at h1; exact h1)) | ((with_reducible refine gate_store (t := 3) (p := 79) rfl ?_); refine skipL_ (w1 := wu.setCell ⟨ga, i, none⟩ (.int .i64 lu)) rfl rfl (by first | (go_simp; done) | (go_simp; rfl)) ?_; have HVv := Aside0.mk (HVu.out.setLa i lu); clear b2 b3 b9 bc bf; generalize wu.setCell ⟨ga, i, none⟩ (.int .i64 lu) = wv at HVv ⊢; have c2 : wv.cell? ⟨ge, 2, none⟩ = some (.int .u8 e.f2) := (blk_cell HVv.out.ev 2).trans rfl; have c3 : wv.cell? ⟨ge, 3, none⟩ = some (.int .i64 e.f3) := (blk_cell HVv.out.ev 3).trans rfl; have c9 : wv.cell? ⟨g, 9, none⟩ = some (.slice (some ⟨ga, 0, none⟩) t.length t.length) := (blk_cell HVv.out.inv.hg 9).trans rfl) | ((with_reducible refine gate_update (t := 77) (x := 88) (y := 90) (z := 91) rfl ?_); obtain ⟨o3, hmu, hN3⟩ := mapUpdate_run klI Try.underlying77 HVv.out.inv.hN e.f3 (.int .i64 (i : Int)); have hmu' : (Instr.mapUpdate 77 (.map (some gn)) (.int .i64 e.f3) (.int .i64 (i : Int))).run Try.prog wv = .ok () (setBlock wv gn o3) := hmu; refine skipL_ (w1 := setBlock wv gn o3) rfl rfl (by first | (go_simp; done) | (go_simp; rfl)) ?_; have HVy := Aside0.mk (HVv.out.setN hN3); clear hmu hmu' hN3; generalize setBlock wv gn o3 = wy at HVy ⊢))
          go_roundg k1
          case measure => omega
          case rel => exact ⟨i + 1, by go_num, ⟨by have := HK.out; omega⟩, ⟨by have := HIN.out; omega⟩, ⟨by
           have h1 := HVy.out.inv
           have h2 := NU_write t i HW.out
           rw [HEV.out] at h2
           rw [HLA.out, h2] at h1
           exact h1⟩⟩
         | false =>
          have HW : Aside0 (wrB (t.getD i z24) = false) := ⟨by rw [HEV.out]; unfold wrB; rw [h18, h19]; rfl⟩
          go_wp2_with (first | ((with_reducible refine gate_store (t := 3) (p := 64) rfl ?_); refine skipL_ (w1 := wt.setCell ⟨ga, i, none⟩ (.int .i64 (-1))) rfl rfl (by first | (go_simp; done) | (go_simp; rfl)) ?_; have HVu := Aside0.mk (HVt.out.setLa i (-1)); clear a2 a3 a9 ac af; generalize wt.setCell ⟨ga, i, none⟩ (.int .i64 (-1)) = wu at HVu ⊢; have b2 : wu.cell? ⟨ge, 2, none⟩ = some (.int .u8 e.f2) := (blk_cell HVu.out.ev 2).trans rfl; have b3 : wu.cell? ⟨ge, 3, none⟩ = some (.int .i64 e.f3) := (blk_cell HVu.out.ev 3).trans rfl; have b9 : wu.cell? ⟨g, 9, none⟩ = some (.slice (some ⟨ga, 0, none⟩) t.length t.length) := (blk_cell HVu.out.inv.hg 9).trans rfl; have bc : wu.cell? ⟨ga, i, none⟩ = some (.int .i64 (((upTo (laU t) t.length i).set i (-1)).getD i 0)) := numsBlk_cell HVu.out.inv.hla i (by simp only [List.length_set, upTo_length]; exact HIN.out); have bf : wu.frozen? ⟨ga, i, none⟩ = false := numsBlk_frozen HVu.out.inv.hla i; have hlk : (Instr.lookup 77 (.map (some gn)) (.int .i64 e.f3) true).run Try.prog wu = .ok (.tuple #[.int .i64 lu, .bool true]) wu := (by have h1 := NU_look HVu.out.inv.hN e.f3; rw [if_neg HLK.out, decide_eq_false HLK.out, HLU.out] at h1; exact h1)) | ((with_reducible refine gate_store (t := 3) (p := 79) rfl ?_); refine skipL_ (w1 := wu.setCell ⟨ga, i, none⟩ (.int .i64 lu)) rfl rfl (by first | (go_simp; done) | (go_simp; rfl)) ?_; have HVv := Aside0.mk (HVu.out.setLa i lu); clear b2 b3 b9 bc bf; generalize wu.setCell ⟨ga, i, none⟩ (.int .i64 lu) = wv at HVv ⊢; have c2 : wv.cell? ⟨ge, 2, none⟩ = some (.int .u8 e.f2) := (blk_cell HVv.out.ev 2).trans rfl; have c3 : wv.cell? ⟨ge, 3, none⟩ = some (.int .i64 e.f3) := (blk_cell HVv.out.ev 3).trans rfl; have c9 : wv.cell? ⟨g, 9, none⟩ = some (.slice (some ⟨ga, 0, none⟩) t.length t.length) := (blk_cell HVv.out.inv.hg 9).trans rfl))
          go_roundg k1
          case measure => omega
          case rel => exact ⟨i + 1, by go_num, ⟨by have := HK.out; omega⟩, ⟨by have := HIN.out; omega⟩, ⟨by
           have h1 := HVv.out.inv
           have h2 := NU_skip t i HW.out
           rw [HLA.out, h2] at h1
           exact h1⟩⟩
     | false =>
      cases tk with
      | true =>
       have HGB : Aside0 (goesB e = true) := ⟨by unfold goesB; rw [HTK.out, Bool.or_true]⟩
       go_wp2_with (first | ((with_reducible refine gate_dst (N := 9) rfl ?_); refine box_event ?hg (N := 9) ?hd (cs := #[.int .i64 0, .int .i64 0, .int .u8 0, .int .i64 0, .int .i64 0, .int .i64 0]) (t := 24) ?hr ?_; (case hd => rfl); (case hg => rfl); (case hr => first | (go_simp; done) | (go_simp; rfl)); intro ge hge we hbe hbele; have HBE := Aside0.mk hbe; have HLE := Aside0.mk hbele; have HGE := Aside0.mk hge; clear hbe hbele hge) | ((with_reducible refine gate_store (t := 24) (p := 9) rfl ?_); have hs0 : we.cell? ⟨ge, 0, none⟩ = some (.int .i64 0) := (blk_cell HBE.out 0).trans rfl; have hf0 : we.frozen? ⟨ge, 0, none⟩ = false := blk_frozen HBE.out 0; have hs1 : we.cell? ⟨ge, 1, none⟩ = some (.int .i64 0) := (blk_cell HBE.out 1).trans rfl; have hf1 : we.frozen? ⟨ge, 1, none⟩ = false := blk_frozen HBE.out 1; have hs2 : we.cell? ⟨ge, 2, none⟩ = some (.int .u8 0) := (blk_cell HBE.out 2).trans rfl; have hf2 : we.frozen? ⟨ge, 2, none⟩ = false := blk_frozen HBE.out 2; have hs3 : we.cell? ⟨ge, 3, none⟩ = some (.int .i64 0) := (blk_cell HBE.out 3).trans rfl; have hf3 : we.frozen? ⟨ge, 3, none⟩ = false := blk_frozen HBE.out 3; have hs4 : we.cell? ⟨ge, 4, none⟩ = some (.int .i64 0) := (blk_cell HBE.out 4).trans rfl; have hf4 : we.frozen? ⟨ge, 4, none⟩ = false := blk_frozen HBE.out 4; have hs5 : we.cell? ⟨ge, 5, none⟩ = some (.int .i64 0) := (blk_cell HBE.out 5).trans rfl; have hf5 : we.frozen? ⟨ge, 5, none⟩ = false := blk_frozen HBE.out 5; refine skipL_ (w1 := put6 we ge e) rfl rfl (by go_simp; rfl) ?_; clear hs0 hf0 hs1 hf1 hs2 hf2 hs3 hf3 hs4 hf4 hs5 hf5; have HV := Aside0.mk (InvE.start (e := e) HI.out HBE.out HLE.out HGE.out); generalize put6 we ge e = wv at HV ⊢; have v0 : wv.cell? ⟨ge, 0, none⟩ = some (.int .i64 e.f0) := (blk_cell HV.out.ev 0).trans rfl; have v1 : wv.cell? ⟨ge, 1, none⟩ = some (.int .i64 e.f1) := (blk_cell HV.out.ev 1).trans rfl; have v2 : wv.cell? ⟨ge, 2, none⟩ = some (.int .u8 e.f2) := (blk_cell HV.out.ev 2).trans rfl; have v3 : wv.cell? ⟨ge, 3, none⟩ = some (.int .i64 e.f3) := (blk_cell HV.out.ev 3).trans rfl; have v4 : wv.cell? ⟨ge, 4, none⟩ = some (.int .i64 e.f4) := (blk_cell HV.out.ev 4).trans rfl; have v5 : wv.cell? ⟨ge, 5, none⟩ = some (.int .i64 e.f5) := (blk_cell HV.out.ev 5).trans rfl) | ((with_reducible refine gate_callee (f := 39) rfl ?_); (try (refine gate_guard (by rfl) ?_; dsimp only)); refine goesL_ (some 37) rfl rfl Try.func39 (by kernel_rfl) rfl #[.agg #[.int .i64 e.f0, .int .i64 e.f1, .int .u8 e.f2, .int .i64 e.f3, .int .i64 e.f4, .int .i64 e.f5]] rfl (by simp [Act.eval]) ?_; refine (takes_any _ e).mono ?_; rintro e9 w9 ⟨he9, hb9⟩; rw [HTK.out] at he9; subst he9; have HV9 := Aside0.mk (HV.out.below hb9); have u0 : w9.cell? ⟨ge, 0, none⟩ = some (.int .i64 e.f0) := (blk_cell HV9.out.ev 0).trans rfl; have u1 : w9.cell? ⟨ge, 1, none⟩ = some (.int .i64 e.f1) := (blk_cell HV9.out.ev 1).trans rfl; have u2 : w9.cell? ⟨ge, 2, none⟩ = some (.int .u8 e.f2) := (blk_cell HV9.out.ev 2).trans rfl; have u3 : w9.cell? ⟨ge, 3, none⟩ = some (.int .i64 e.f3) := (blk_cell HV9.out.ev 3).trans rfl; have u4 : w9.cell? ⟨ge, 4, none⟩ = some (.int .i64 e.f4) := (blk_cell HV9.out.ev 4).trans rfl; have u5 : w9.cell? ⟨ge, 5, none⟩ = some (.int .i64 e.f5) := (blk_cell HV9.out.ev 5).trans rfl; clear hb9; refine ⟨_, rfl, ?_⟩))
       clear HBE HLE HGE HI v0 v1 v2 v3 v4 v5 HV
       have v0 := u0
       have v1 := u1
       have v2 := u2
       have v3 := u3
       have v4 := u4
       have v5 := u5
       clear u0 u1 u2 u3 u4 u5
       obtain ⟨tk, htk2⟩ : ∃ b, true = b := ⟨_, rfl⟩
       have HTK2 : Aside0 (takesB e = tk) := ⟨HTK.out.trans htk2⟩
       clear HTK htk2
       have HTK := HTK2
       refine start_ (n := 7) (S := fun w' => w'.cell? ⟨ge, 0, none⟩ = some (.int .i64 e.f0) ∧ w'.cell? ⟨ge, 1, none⟩ = some (.int .i64 e.f1) ∧ w'.cell? ⟨ge, 2, none⟩ = some (.int .u8 e.f2) ∧ w'.cell? ⟨ge, 3, none⟩ = some (.int .i64 e.f3) ∧ w'.cell? ⟨ge, 4, none⟩ = some (.int .i64 e.f4) ∧ w'.cell? ⟨ge, 5, none⟩ = some (.int .i64 e.f5)) (ds := [6]) (bl 7 0) (by kernel_rfl) rfl rfl ⟨v0, v1, v2, v3, v4, v5⟩ (fun hHeld => ?_)
       refine pure_ (i := 2) (N := some 41) (v := ?_) (a' := ?_) (bl 7 4) rfl rfl (by kernel_rfl) (fun _ _ _ h => h) (Or.inl ⟨by rfl, ?_⟩) ?_ ?_
       rotate_left
       · intro w'
         go_simp
         with_reducible rfl
       rotate_left
       · simp only [Act.put, List.setIfInBounds_toArray, List.set_cons_zero, List.set_cons_succ, i64_w, i32_w]
         rfl
       refine take_ (i := 0) (N := some 39) (v := ?_) (a' := ?_) (bl 7 5) rfl rfl (by kernel_rfl) (fun _ _ _ h => h) (Or.inl ⟨by rfl, ?_⟩) hHeld ?_ ?_
       rotate_left
       · rintro w' ⟨s0, s1, s2, s3, s4, s5⟩
         go_simp
         with_reducible rfl
       rotate_left
       · simp only [Act.put, List.setIfInBounds_toArray, List.set_cons_zero, List.set_cons_succ, i64_w, i32_w]
         rfl
       refine take_ (i := 3) (N := some 42) (v := ?_) (a' := ?_) (bl 7 13) rfl rfl (by kernel_rfl) (fun _ _ _ h => h) (Or.inl ⟨by rfl, ?_⟩) hHeld ?_ ?_
       rotate_left
       · rintro w' ⟨s0, s1, s2, s3, s4, s5⟩
         go_simp
         with_reducible rfl
       rotate_left
       · simp only [Act.put, List.setIfInBounds_toArray, List.set_cons_zero, List.set_cons_succ, i64_w, i32_w]
         rfl
       refine join_ (σ := Nat) 1 (bl 7 63) (fun s => [(40, .bool tk), (43, .agg #[.bool tk, .int .i64 e.f3]), (10, .pointer (some ⟨s, 0, none⟩))]) (fun s w' => (w'.heap[s]? = some (.cells #[.bool false, .int .i64 0] 79 (0, 0)) ∧ Below w9.heap.size w9 w' ∧ w9.heap.size ≤ s) ∧ w'.cell? ⟨ge, 0, none⟩ = some (.int .i64 e.f0) ∧ w'.cell? ⟨ge, 1, none⟩ = some (.int .i64 e.f1) ∧ w'.cell? ⟨ge, 2, none⟩ = some (.int .u8 e.f2) ∧ w'.cell? ⟨ge, 3, none⟩ = some (.int .i64 e.f3) ∧ w'.cell? ⟨ge, 4, none⟩ = some (.int .i64 e.f4) ∧ w'.cell? ⟨ge, 5, none⟩ = some (.int .i64 e.f5)) ?_ ?_
       rotate_left
       · intro hCont
         refine two_ (i := 1) (j := 5) (Ni := some 40) (Nj := some 10) (bl 7 15) (bl 7 45) rfl rfl rfl rfl (by kernel_rfl) (by decide) (by decide) (fun K hK => ?_) (fun K hK => ?_)
         · skip
           refine goes_ Try.func39 (by kernel_rfl) rfl #[.agg #[.int .i64 e.f0, .int .i64 e.f1, .int .u8 e.f2, .int .i64 e.f3, .int .i64 e.f4, .int .i64 e.f5]] (by rfl) rfl rfl (by simp only [List.map_toArray, List.map_cons, List.map_nil]; rfl) ?_
           with_reducible refine (takes_any _ e).mono ?_
           rintro e3 w3 ⟨he3, hbelc⟩
           rw [HTK.out] at he3
           subst he3
           refine ⟨_, rfl, ?_⟩
           refine hK.out _ _ ⟨(pw_cell_below hbelc (hHeld.1)), (pw_cell_below hbelc (hHeld.2.1)), (pw_cell_below hbelc (hHeld.2.2.1)), (pw_cell_below hbelc (hHeld.2.2.2.1)), (pw_cell_below hbelc (hHeld.2.2.2.2.1)), (pw_cell_below hbelc (hHeld.2.2.2.2.2))⟩ (fun hHeld => ?_)
           clear hK K
           refine norm_ (a' := ?_) ?_ ?_
           rotate_left
           · show Act.put _ (some 40) _ = _
             simp only [Act.put, List.setIfInBounds_toArray, List.set_cons_zero, List.set_cons_succ, i64_w, i32_w]
             rfl
           refine pure_ (i := 4) (N := some 43) (v := ?_) (a' := ?_) (bl 7 31) rfl rfl (by kernel_rfl) (fun _ _ _ h => h) (Or.inl ⟨by rfl, ?_⟩) ?_ ?_
           rotate_left
           · intro w'
             go_simp
             with_reducible rfl
           rotate_left
           · simp only [Act.put, List.setIfInBounds_toArray, List.set_cons_zero, List.set_cons_succ, i64_w, i32_w]
             rfl
           refine one_ (i := 5) (N := some 10) (bl 7 63) rfl rfl (by kernel_rfl) (by decide) (fun K hK => ?_)
           refine box_step ?hg (N := 10) ?hd (cs := #[.bool false, .int .i64 0]) (t := 79) ?hr ?_; (case hd => rfl); (case hg => rfl); (case hr => first | (go_simp; done) | (go_simp; rfl))
           intro gk hgk w4 hbk hbelk
           refine hK.out _ _ ⟨(pw_cell_below hbelk (hHeld.1)), (pw_cell_below hbelk (hHeld.2.1)), (pw_cell_below hbelk (hHeld.2.2.1)), (pw_cell_below hbelk (hHeld.2.2.2.1)), (pw_cell_below hbelk (hHeld.2.2.2.2.1)), (pw_cell_below hbelk (hHeld.2.2.2.2.2))⟩ (fun hHeld => ?_)
           clear hK K
           refine norm_ (a' := ?_) ?_ ?_
           rotate_left
           · show Act.put _ (some 10) _ = _
             simp only [Act.put, List.setIfInBounds_toArray, List.set_cons_zero, List.set_cons_succ, i64_w, i32_w]
             rfl
           exact norm_ (by simp only [putAll, Act.put, List.setIfInBounds_toArray, List.set_cons_zero, List.set_cons_succ]) (hCont gk _ ⟨⟨hbk, below_then (below_then (below_drew (Below.refl w9.heap.size w9)) (below_drew (Below.refl w9.heap.size w9)).size hbelc) (below_then (below_drew (Below.refl w9.heap.size w9)) (below_drew (Below.refl w9.heap.size w9)).size hbelc).size hbelk, (by have : w9.drew.heap.size = w9.heap.size := rfl; have := hbelc.size; omega)⟩, hHeld⟩)
         · skip
           refine box_step ?hg (N := 10) ?hd (cs := #[.bool false, .int .i64 0]) (t := 79) ?hr ?_; (case hd => rfl); (case hg => rfl); (case hr => first | (go_simp; done) | (go_simp; rfl))
           intro gk hgk w4 hbk hbelk
           refine hK.out _ _ ⟨(pw_cell_below hbelk (hHeld.1)), (pw_cell_below hbelk (hHeld.2.1)), (pw_cell_below hbelk (hHeld.2.2.1)), (pw_cell_below hbelk (hHeld.2.2.2.1)), (pw_cell_below hbelk (hHeld.2.2.2.2.1)), (pw_cell_below hbelk (hHeld.2.2.2.2.2))⟩ (fun hHeld => ?_)
           clear hK K
           refine norm_ (a' := ?_) ?_ ?_
           rotate_left
           · show Act.put _ (some 10) _ = _
             simp only [Act.put, List.setIfInBounds_toArray, List.set_cons_zero, List.set_cons_succ, i64_w, i32_w]
             rfl
           refine one_ (i := 1) (N := some 40) (bl 7 47) rfl rfl (by kernel_rfl) (by decide) (fun K hK => ?_)
           refine goes_ Try.func39 (by kernel_rfl) rfl #[.agg #[.int .i64 e.f0, .int .i64 e.f1, .int .u8 e.f2, .int .i64 e.f3, .int .i64 e.f4, .int .i64 e.f5]] (by rfl) rfl rfl (by simp only [List.map_toArray, List.map_cons, List.map_nil]; rfl) ?_
           with_reducible refine (takes_any _ e).mono ?_
           rintro e3 w3 ⟨he3, hbelc⟩
           rw [HTK.out] at he3
           subst he3
           refine ⟨_, rfl, ?_⟩
           refine hK.out _ _ ⟨(pw_cell_below hbelc (hHeld.1)), (pw_cell_below hbelc (hHeld.2.1)), (pw_cell_below hbelc (hHeld.2.2.1)), (pw_cell_below hbelc (hHeld.2.2.2.1)), (pw_cell_below hbelc (hHeld.2.2.2.2.1)), (pw_cell_below hbelc (hHeld.2.2.2.2.2))⟩ (fun hHeld => ?_)
           clear hK K
           refine norm_ (a' := ?_) ?_ ?_
           rotate_left
           · show Act.put _ (some 40) _ = _
             simp only [Act.put, List.setIfInBounds_toArray, List.set_cons_zero, List.set_cons_succ, i64_w, i32_w]
             rfl
           refine pure_ (i := 4) (N := some 43) (v := ?_) (a' := ?_) (bl 7 63) rfl rfl (by kernel_rfl) (fun _ _ _ h => h) (Or.inl ⟨by rfl, ?_⟩) ?_ ?_
           rotate_left
           · intro w'
             go_simp
             with_reducible rfl
           rotate_left
           · simp only [Act.put, List.setIfInBounds_toArray, List.set_cons_zero, List.set_cons_succ, i64_w, i32_w]
             rfl
           exact norm_ (by simp only [putAll, Act.put, List.setIfInBounds_toArray, List.set_cons_zero, List.set_cons_succ]) (hCont gk _ ⟨⟨((hbelc.block gk (lt_of_blk hbk)).trans hbk), below_then (below_then (below_drew (Below.refl w9.heap.size w9)) (below_drew (Below.refl w9.heap.size w9)).size hbelk) (below_then (below_drew (Below.refl w9.heap.size w9)) (below_drew (Below.refl w9.heap.size w9)).size hbelk).size hbelc, (by have : w9.drew.heap.size = w9.heap.size := rfl; have := hbelk.size; omega)⟩, hHeld⟩)
       rintro gk w5 ⟨⟨hbk, hbel5, hgk⟩, hHeld⟩
       refine norm_ (a' := ?_) ?_ ?_
       rotate_left
       · simp only [putAll, Act.put, List.setIfInBounds_toArray, List.set_cons_zero, List.set_cons_succ]
         rfl
       refine last_ (i := 6) (N := none) (bl 7 127) rfl rfl (by kernel_rfl) (by decide) (fun K hK => ?_)
       have hs0 : w5.cell? ⟨gk, 0, none⟩ = some (.bool false) := (blk_cell hbk 0).trans rfl
       have hf0 : w5.frozen? ⟨gk, 0, none⟩ = false := blk_frozen hbk 0
       have hs1 : w5.cell? ⟨gk, 1, none⟩ = some (.int .i64 0) := (blk_cell hbk 1).trans rfl
       have hf1 : w5.frozen? ⟨gk, 1, none⟩ = false := blk_frozen hbk 1
       refine skip_ (w1 := put2 w5 gk tk e.f3) (by rfl) rfl ?_ ?_
       · go_simp
         rfl
       clear hs0 hf0 hs1 hf1
       refine hK.out _ _ ?_
       clear hK K
       refine done_ (by kernel_rfl) ?_
       have HV7 := Aside0.mk (HV9.out.below (put2_below (tk := tk) (ob := e.f3) hbel5 hgk))
       have HK7 := Aside0.mk (put2_blk (tk := tk) (ob := e.f3) hbk)
       have HKN : Aside0 (gk ≠ gl ∧ gk ≠ gm) := ⟨by have h1 := lt_of_blk HV9.out.inv.hpl; have h2 := HV9.out.inv.hM.lt; constructor <;> omega⟩
       generalize put2 w5 gk tk e.f3 = w7 at HV7 HK7 ⊢
       clear hbel5 hgk hbk hHeld HV9 v0 v1 v2 v3 v4 v5
       obtain ⟨kc, hkc⟩ : ∃ n, kcnt t i (tk, e.f3) = n := ⟨_, rfl⟩
       have HKC := Aside0.mk hkc
       have kc1 : (kc : Int) ≤ 1000000000 := by have h1 := kcnt_le t i (tk, e.f3); have h2 := HIN.out; have h3 := HM.out; omega
       have kc0 : (0 : Int) ≤ (kc : Int) := by omega
       have hlk : (Instr.lookup 76 (.map (some gm)) (.agg #[.bool tk, .int .i64 e.f3]) false).run Try.prog w7.drew = .ok (.int .i64 (kc : Int)) w7.drew := by
        have h1 := MU_look ((HV7.out.inv.below (below_drew (Below.refl _ _))).hM) tk e.f3
        rw [hkc] at h1
        exact h1
       clear hkc
       have n1 : w7.drew.cell? ⟨gk, 0, none⟩ = some (.bool tk) := (blk_cell (w := w7.drew) HK7.out 0).trans rfl
       have n2 : w7.drew.cell? ⟨gk, 1, none⟩ = some (.int .i64 e.f3) := (blk_cell (w := w7.drew) HK7.out 1).trans rfl
       have n3 : w7.drew.cell? ⟨g, 8, none⟩ = some (.slice (some ⟨gl, 0, none⟩) t.length t.length) := (blk_cell (w := w7.drew) (HV7.out.inv.hg) 8).trans rfl
       have n4 : w7.drew.cell? ⟨gl, i, none⟩ = some (.int .i64 ((upTo (plU t) t.length i).getD i 0)) := numsBlk_cell (w := w7.drew) HV7.out.inv.hpl i (by rw [upTo_length]; exact HIN.out)
       have n5 : w7.drew.frozen? ⟨gl, i, none⟩ = false := numsBlk_frozen (w := w7.drew) HV7.out.inv.hpl i
       go_wp2
       refine start_ (n := 10) (S := fun w' => w'.cell? ⟨g, 8, none⟩ = some (.slice (some ⟨gl, 0, none⟩) t.length t.length) ∧ w'.cell? ⟨gk, 0, none⟩ = some (.bool tk) ∧ w'.cell? ⟨gk, 1, none⟩ = some (.int .i64 e.f3) ∧ (Instr.lookup 76 (.map (some gm)) (.agg #[.bool tk, .int .i64 e.f3]) false).run Try.prog w' = .ok (.int .i64 (kc : Int)) w') (ds := [9]) (bl 10 0) (by kernel_rfl) rfl rfl ⟨n3, n1, n2, hlk⟩ (fun hHeld => ?_)
       refine pure_ (i := 0) (N := some 44) (v := ?_) (a' := ?_) (bl 10 1) rfl rfl (by kernel_rfl) (fun _ _ _ h => h) (Or.inl ⟨by rfl, ?_⟩) ?_ ?_
       rotate_left
       · intro w'
         go_simp
         with_reducible rfl
       rotate_left
       · simp only [Act.put, List.setIfInBounds_toArray, List.set_cons_zero, List.set_cons_succ, i64_w, i32_w]
         rfl
       refine pure_ (i := 1) (N := some 45) (v := ?_) (a' := ?_) (bl 10 3) rfl rfl (by kernel_rfl) (fun _ _ _ h => h) (Or.inl ⟨by rfl, ?_⟩) ?_ ?_
       rotate_left
       · intro w'
         go_simp
         with_reducible rfl
       rotate_left
       · simp only [Act.put, List.setIfInBounds_toArray, List.set_cons_zero, List.set_cons_succ, i64_w, i32_w]
         rfl
       refine pure_ (i := 2) (N := some 46) (v := ?_) (a' := ?_) (bl 10 7) rfl rfl (by kernel_rfl) (fun _ _ _ h => h) (Or.inl ⟨by rfl, ?_⟩) ?_ ?_
       rotate_left
       · intro w'
         go_simp
         with_reducible rfl
       rotate_left
       · simp only [Act.put, List.setIfInBounds_toArray, List.set_cons_zero, List.set_cons_succ, i64_w, i32_w]
         rfl
       refine pure_ (i := 4) (N := some 48) (v := ?_) (a' := ?_) (bl 10 23) rfl rfl (by kernel_rfl) (fun _ _ _ h => h) (Or.inl ⟨by rfl, ?_⟩) ?_ ?_
       rotate_left
       · intro w'
         go_simp
         with_reducible rfl
       rotate_left
       · simp only [Act.put, List.setIfInBounds_toArray, List.set_cons_zero, List.set_cons_succ, i64_w, i32_w]
         rfl
       refine pure_ (i := 5) (N := some 49) (v := ?_) (a' := ?_) (bl 10 55) rfl rfl (by kernel_rfl) (fun _ _ _ h => h) (Or.inl ⟨by rfl, ?_⟩) ?_ ?_
       rotate_left
       · intro w'
         go_simp
         with_reducible rfl
       rotate_left
       · simp only [Act.put, List.setIfInBounds_toArray, List.set_cons_zero, List.set_cons_succ, i64_w, i32_w]
         rfl
       refine take_ (i := 3) (N := some 47) (v := ?_) (a' := ?_) (bl 10 63) rfl rfl (by kernel_rfl) (fun _ _ _ h => h) (Or.inl ⟨by rfl, ?_⟩) hHeld ?_ ?_
       rotate_left
       · rintro w' ⟨s0, s1, s2, s3⟩
         go_simp
         with_reducible rfl
       rotate_left
       · simp only [Act.put, List.setIfInBounds_toArray, List.set_cons_zero, List.set_cons_succ, i64_w, i32_w]
         rfl
       refine take_ (i := 6) (N := some 50) (v := ?_) (a' := ?_) (bl 10 127) rfl rfl (by kernel_rfl) (fun _ _ _ h => h) (Or.inl ⟨by rfl, ?_⟩) hHeld ?_ ?_
       rotate_left
       · rintro w' ⟨s0, s1, s2, s3⟩
         go_simp
         with_reducible rfl
       rotate_left
       · simp only [Act.put, List.setIfInBounds_toArray, List.set_cons_zero, List.set_cons_succ, i64_w, i32_w]
         rfl
       refine take_ (i := 7) (N := some 51) (v := ?_) (a' := ?_) (bl 10 255) rfl rfl (by kernel_rfl) (fun _ _ _ h => h) (Or.inl ⟨by rfl, ?_⟩) hHeld ?_ ?_
       rotate_left
       · rintro w' ⟨s0, s1, s2, s3⟩
         go_simp
         with_reducible rfl
       rotate_left
       · simp only [Act.put, List.setIfInBounds_toArray, List.set_cons_zero, List.set_cons_succ, i64_w, i32_w]
         rfl
       refine pure_ (i := 8) (N := some 52) (v := ?_) (a' := ?_) (bl 10 511) rfl rfl (by kernel_rfl) (fun _ _ _ h => h) (Or.inl ⟨by rfl, ?_⟩) ?_ ?_
       rotate_left
       · intro w'
         go_simp
         with_reducible rfl
       rotate_left
       · simp only [Act.put, List.setIfInBounds_toArray, List.set_cons_zero, List.set_cons_succ, i64_w, i32_w]
         rfl
       refine last_ (i := 9) (N := none) (bl 10 1023) rfl rfl (by kernel_rfl) (by decide) (fun K hK => ?_)
       refine skip_ (w1 := w7.drew.setCell ⟨gl, i, none⟩ (.int .i64 (kc : Int))) (by rfl) rfl ?_ ?_
       · go_simp
       refine hK.out _ _ ?_
       clear hK K
       refine done_ (by kernel_rfl) ?_
       have HV8 := Aside0.mk ((HV7.out.below (below_drew (Below.refl _ _))).setPl i (kc : Int))
       have HK8 : Aside0 ((w7.drew.setCell ⟨gl, i, none⟩ (.int .i64 (kc : Int))).heap[gk]? = some (.cells #[.bool tk, .int .i64 e.f3] 79 (0, 0))) := ⟨(Below.heap_setCell w7.drew ⟨gl, i, none⟩ (.int .i64 (kc : Int)) gk HKN.out.1).trans HK7.out⟩
       generalize w7.drew.setCell ⟨gl, i, none⟩ (.int .i64 (kc : Int)) = w8 at HV8 HK8 ⊢
       clear hlk n1 n2 n3 n4 n5 HV7 HK7 hHeld
       have hlk : (Instr.lookup 76 (.map (some gm)) (.agg #[.bool tk, .int .i64 e.f3]) false).run Try.prog w8.drew = .ok (.int .i64 (kc : Int)) w8.drew := by
        have h1 := MU_look ((HV8.out.inv.below (below_drew (Below.refl _ _))).hM) tk e.f3
        rw [HKC.out] at h1
        exact h1
       have n1 : w8.drew.cell? ⟨gk, 0, none⟩ = some (.bool tk) := (blk_cell (w := w8.drew) HK8.out 0).trans rfl
       have n2 : w8.drew.cell? ⟨gk, 1, none⟩ = some (.int .i64 e.f3) := (blk_cell (w := w8.drew) HK8.out 1).trans rfl
       obtain ⟨o1, st, hme, hM1, hM2⟩ := mapEntry_run klK Try.underlying76 (.int .i64 0) zeroI ((HV8.out.inv.below (below_drew (Below.refl _ _))).hM) (tk, e.f3)
       rw [MU_get, HKC.out] at hme hM1
       have hme' : (Instr.mapEntry 76 (.map (some gm)) (.agg #[.bool tk, .int .i64 e.f3])).run Try.prog w8.drew = .ok (.tuple #[.int .i64 (kc : Int), goInt st]) (setBlock w8.drew gm o1) := hme
       clear hme
       go_wp2
       refine start_ (n := 7) (S := fun w' => w'.cell? ⟨gk, 0, none⟩ = some (.bool tk) ∧ w'.cell? ⟨gk, 1, none⟩ = some (.int .i64 e.f3) ∧ (Instr.lookup 76 (.map (some gm)) (.agg #[.bool tk, .int .i64 e.f3]) false).run Try.prog w' = .ok (.int .i64 (kc : Int)) w') (ds := [6]) (bl 7 0) (by kernel_rfl) rfl rfl ⟨n1, n2, hlk⟩ (fun hHeld => ?_)
       refine pure_ (i := 0) (N := some 53) (v := ?_) (a' := ?_) (bl 7 1) rfl rfl (by kernel_rfl) (fun _ _ _ h => h) (Or.inl ⟨by rfl, ?_⟩) ?_ ?_
       rotate_left
       · intro w'
         go_simp
         with_reducible rfl
       rotate_left
       · simp only [Act.put, List.setIfInBounds_toArray, List.set_cons_zero, List.set_cons_succ, i64_w, i32_w]
         rfl
       refine take_ (i := 1) (N := some 54) (v := ?_) (a' := ?_) (bl 7 3) rfl rfl (by kernel_rfl) (fun _ _ _ h => h) (Or.inl ⟨by rfl, ?_⟩) hHeld ?_ ?_
       rotate_left
       · rintro w' ⟨s0, s1, s2⟩
         go_simp
         with_reducible rfl
       rotate_left
       · simp only [Act.put, List.setIfInBounds_toArray, List.set_cons_zero, List.set_cons_succ, i64_w, i32_w]
         rfl
       refine take_ (i := 2) (N := some 55) (v := ?_) (a' := ?_) (bl 7 7) rfl rfl (by kernel_rfl) (fun _ _ _ h => h) (Or.inl ⟨by rfl, ?_⟩) hHeld ?_ ?_
       rotate_left
       · rintro w' ⟨s0, s1, s2⟩
         go_simp
         with_reducible rfl
       rotate_left
       · simp only [Act.put, List.setIfInBounds_toArray, List.set_cons_zero, List.set_cons_succ, i64_w, i32_w]
         rfl
       refine pure_ (i := 3) (N := some 56) (v := ?_) (a' := ?_) (bl 7 15) rfl rfl (by kernel_rfl) (fun _ _ _ h => h) (Or.inl ⟨by rfl, ?_⟩) ?_ ?_
       rotate_left
       · intro w'
         go_simp
         with_reducible rfl
       rotate_left
       · simp only [Act.put, List.setIfInBounds_toArray, List.set_cons_zero, List.set_cons_succ, i64_w, i32_w]
         rfl
       refine one_ (i := 4) (N := some 57) (bl 7 31) rfl rfl (by kernel_rfl) (by decide) (fun K hK => ?_)
       refine value_ (w1 := setBlock w8.drew gm o1) (v := .tuple #[.int .i64 (kc : Int), goInt st]) (by rfl) rfl ?_ ?_
       · go_simp
       have HVa := Aside0.mk ((HV8.out.below (below_drew (Below.refl _ _))).setM hM1)
       have HKa : Aside0 ((setBlock w8.drew gm o1).heap[gk]? = some (.cells #[.bool tk, .int .i64 e.f3] 79 (0, 0))) := ⟨(heap_setBlock_ne HKN.out.2).trans HK8.out⟩
       obtain ⟨o2, hes, hM3⟩ := hM2 (setBlock w8.drew gm o1) (.int .i64 ((kc : Int) + 1)) (by obtain ⟨es, cl, hb, _⟩ := HV8.out.inv.hM; exact heap_setBlock (w := w8.drew) hb)
       have hlk2 : (Instr.lookup 76 (.map (some gm)) (.agg #[.bool tk, .int .i64 e.f3]) false).run Try.prog (setBlock w8.drew gm o1) = .ok (.int .i64 (kc : Int)) (setBlock w8.drew gm o1) := (lookup_run klK Try.underlying76 (.int .i64 0) zeroI HVa.out.inv.hM (tk, e.f3)).trans (by simp [upd])
       generalize setBlock w8.drew gm o1 = wa at HVa HKa hes hlk2 ⊢
       clear hme' hM1 hM2
       refine hK.out _ _ ⟨((blk_cell HKa.out 0).trans rfl), ((blk_cell HKa.out 1).trans rfl), hlk2⟩ (fun hHeld => ?_)
       clear hK K
       refine norm_ (a' := ?_) ?_ ?_
       rotate_left
       · show Act.put _ (some 57) _ = _
         simp only [Act.put, List.setIfInBounds_toArray, List.set_cons_zero, List.set_cons_succ, i64_w, i32_w]
         rfl
       refine pure_ (i := 5) (N := some 58) (v := ?_) (a' := ?_) (bl 7 63) rfl rfl (by kernel_rfl) (fun _ _ _ h => h) (Or.inl ⟨by rfl, ?_⟩) ?_ ?_
       rotate_left
       · intro w'
         go_simp
         with_reducible rfl
       rotate_left
       · simp only [Act.put, List.setIfInBounds_toArray, List.set_cons_zero, List.set_cons_succ, i64_w, i32_w]
         rfl
       refine last_ (i := 6) (N := none) (bl 7 127) rfl rfl (by kernel_rfl) (by decide) (fun K hK => ?_)
       refine skip_ (w1 := setBlock wa gm o2) (by rfl) rfl ?_ ?_
       · go_simp
         rw [show wrap64 ((kc : Int) + 1) = (kc : Int) + 1 from by unfold wrap64; omega, show Value.int IntKind.i64 st = goInt st from rfl, hes]
         rfl
       refine hK.out _ _ ?_
       clear hK K
       refine done_ (by kernel_rfl) ?_
       have hup : upd (MU t i) (tk, e.f3) (.int .i64 ((kc : Int) + 1)) = MU t (i + 1) := by
        have h1 := MU_goes t i HIN.out (by rw [HEV.out]; exact HGB.out)
        rw [HEV.out, show keyB e = (tk, e.f3) from by unfold keyB; rw [HTK.out], HKC.out] at h1
        exact h1
       have hpl : (upTo (plU t) t.length i).set i (kc : Int) = upTo (plU t) t.length (i + 1) := by
        rw [← upTo_set _ _ _ HIN.out]
        congr 1
        unfold plU
        rw [HEV.out, if_pos HGB.out, show keyB e = (tk, e.f3) from by unfold keyB; rw [HTK.out], HKC.out]
       have HVt := Aside0.mk (HVa.out.setM hM3)
       rw [hpl, hup] at HVt
       generalize setBlock wa gm o2 = wt at HVt ⊢
       clear HVa HKa hes hlk2 hM3 hlk n1 n2 hup hpl HV8 HK8 HKN HKC hHeld kc0 kc1 h20
       have a2 : wt.cell? ⟨ge, 2, none⟩ = some (.int .u8 e.f2) := (blk_cell HVt.out.ev 2).trans rfl
       have a3 : wt.cell? ⟨ge, 3, none⟩ = some (.int .i64 e.f3) := (blk_cell HVt.out.ev 3).trans rfl
       have a9 : wt.cell? ⟨g, 9, none⟩ = some (.slice (some ⟨ga, 0, none⟩) t.length t.length) := (blk_cell HVt.out.inv.hg 9).trans rfl
       have ac : wt.cell? ⟨ga, i, none⟩ = some (.int .i64 ((upTo (laU t) t.length i).getD i 0)) := numsBlk_cell HVt.out.inv.hla i (by simp only [List.length_set, upTo_length]; exact HIN.out)
       have af : wt.frozen? ⟨ga, i, none⟩ = false := numsBlk_frozen HVt.out.inv.hla i
       by_cases hl : lastU t i e.f3 < 0
       · have HLK := Aside0.mk hl
         have HLA : Aside0 (((upTo (laU t) t.length i).set i (-1)) = upTo (laU t) t.length (i + 1)) := ⟨by rw [← upTo_set _ _ _ HIN.out]; congr 1; unfold laU; rw [HEV.out]; have := lastU_lo t e.f3 i; have := HLK.out; omega⟩
         clear hl
         cases h18 : e.f2 == 18 with
         | true =>
          have HW : Aside0 (wrB (t.getD i z24) = true) := ⟨by rw [HEV.out]; unfold wrB; rw [h18]; rfl⟩
          go_wp2_with (first | ((with_reducible refine gate_store (t := 3) (p := 64) rfl ?_); refine skipL_ (w1 := wt.setCell ⟨ga, i, none⟩ (.int .i64 (-1))) rfl rfl (by first | (go_simp; done) | (go_simp; rfl)) ?_; have HVu := Aside0.mk (HVt.out.setLa i (-1)); clear a2 a3 a9 ac af; generalize wt.setCell ⟨ga, i, none⟩ (.int .i64 (-1)) = wu at HVu ⊢; have b2 : wu.cell? ⟨ge, 2, none⟩ = some (.int .u8 e.f2) := (blk_cell HVu.out.ev 2).trans rfl; have b3 : wu.cell? ⟨ge, 3, none⟩ = some (.int .i64 e.f3) := (blk_cell HVu.out.ev 3).trans rfl; have b9 : wu.cell? ⟨g, 9, none⟩ = some (.slice (some ⟨ga, 0, none⟩) t.length t.length) := (blk_cell HVu.out.inv.hg 9).trans rfl; have bc : wu.cell? ⟨ga, i, none⟩ = some (.int .i64 (((upTo (laU t) t.length i).set i (-1)).getD i 0)) := numsBlk_cell HVu.out.inv.hla i (by simp only [List.length_set, upTo_length]; exact HIN.out); have bf : wu.frozen? ⟨ga, i, none⟩ = false := numsBlk_frozen HVu.out.inv.hla i; have hlk : (Instr.lookup 77 (.map (some gn)) (.int .i64 e.f3) true).run Try.prog wu = .ok (.tuple #[.int .i64 0, .bool false]) wu := (by have h1 := NU_look HVu.out.inv.hN e.f3; rw [if_pos HLK.out, decide_eq_true HLK.out] at h1; exact h1)) | ((with_reducible refine gate_update (t := 77) (x := 88) (y := 90) (z := 91) rfl ?_); obtain ⟨o3, hmu, hN3⟩ := mapUpdate_run klI Try.underlying77 HVu.out.inv.hN e.f3 (.int .i64 (i : Int)); have hmu' : (Instr.mapUpdate 77 (.map (some gn)) (.int .i64 e.f3) (.int .i64 (i : Int))).run Try.prog wu = .ok () (setBlock wu gn o3) := hmu; refine skipL_ (w1 := setBlock wu gn o3) rfl rfl (by first | (go_simp; done) | (go_simp; rfl)) ?_; have HVy := Aside0.mk (HVu.out.setN hN3); clear hmu hmu' hN3; generalize setBlock wu gn o3 = wy at HVy ⊢))
          go_roundg k1
          case measure => omega
          case rel => exact ⟨i + 1, by go_num, ⟨by have := HK.out; omega⟩, ⟨by have := HIN.out; omega⟩, ⟨by
           have h1 := HVy.out.inv
           have h2 := NU_write t i HW.out
           rw [HEV.out] at h2
           rw [HLA.out, h2] at h1
           exact h1⟩⟩
         | false =>
          cases h19 : e.f2 == 19 with
          | true =>
           have HW : Aside0 (wrB (t.getD i z24) = true) := ⟨by rw [HEV.out]; unfold wrB; rw [h18, h19]; rfl⟩
           go_wp2_with (first | ((with_reducible refine gate_store (t := 3) (p := 64) rfl ?_); refine skipL_ (w1 := wt.setCell ⟨ga, i, none⟩ (.int .i64 (-1))) rfl rfl (by first | (go_simp; done) | (go_simp; rfl)) ?_; have HVu := Aside0.mk (HVt.out.setLa i (-1)); clear a2 a3 a9 ac af; generalize wt.setCell ⟨ga, i, none⟩ (.int .i64 (-1)) = wu at HVu ⊢; have b2 : wu.cell? ⟨ge, 2, none⟩ = some (.int .u8 e.f2) := (blk_cell HVu.out.ev 2).trans rfl; have b3 : wu.cell? ⟨ge, 3, none⟩ = some (.int .i64 e.f3) := (blk_cell HVu.out.ev 3).trans rfl; have b9 : wu.cell? ⟨g, 9, none⟩ = some (.slice (some ⟨ga, 0, none⟩) t.length t.length) := (blk_cell HVu.out.inv.hg 9).trans rfl; have bc : wu.cell? ⟨ga, i, none⟩ = some (.int .i64 (((upTo (laU t) t.length i).set i (-1)).getD i 0)) := numsBlk_cell HVu.out.inv.hla i (by simp only [List.length_set, upTo_length]; exact HIN.out); have bf : wu.frozen? ⟨ga, i, none⟩ = false := numsBlk_frozen HVu.out.inv.hla i; have hlk : (Instr.lookup 77 (.map (some gn)) (.int .i64 e.f3) true).run Try.prog wu = .ok (.tuple #[.int .i64 0, .bool false]) wu := (by have h1 := NU_look HVu.out.inv.hN e.f3; rw [if_pos HLK.out, decide_eq_true HLK.out] at h1; exact h1)) | ((with_reducible refine gate_update (t := 77) (x := 88) (y := 90) (z := 91) rfl ?_); obtain ⟨o3, hmu, hN3⟩ := mapUpdate_run klI Try.underlying77 HVu.out.inv.hN e.f3 (.int .i64 (i : Int)); have hmu' : (Instr.mapUpdate 77 (.map (some gn)) (.int .i64 e.f3) (.int .i64 (i : Int))).run Try.prog wu = .ok () (setBlock wu gn o3) := hmu; refine skipL_ (w1 := setBlock wu gn o3) rfl rfl (by first | (go_simp; done) | (go_simp; rfl)) ?_; have HVy := Aside0.mk (HVu.out.setN hN3); clear hmu hmu' hN3; generalize setBlock wu gn o3 = wy at HVy ⊢))
           go_roundg k1
           case measure => omega
           case rel => exact ⟨i + 1, by go_num, ⟨by have := HK.out; omega⟩, ⟨by have := HIN.out; omega⟩, ⟨by
            have h1 := HVy.out.inv
            have h2 := NU_write t i HW.out
            rw [HEV.out] at h2
            rw [HLA.out, h2] at h1
            exact h1⟩⟩
          | false =>
           have HW : Aside0 (wrB (t.getD i z24) = false) := ⟨by rw [HEV.out]; unfold wrB; rw [h18, h19]; rfl⟩
           go_wp2_with (first | ((with_reducible refine gate_store (t := 3) (p := 64) rfl ?_); refine skipL_ (w1 := wt.setCell ⟨ga, i, none⟩ (.int .i64 (-1))) rfl rfl (by first | (go_simp; done) | (go_simp; rfl)) ?_; have HVu := Aside0.mk (HVt.out.setLa i (-1)); clear a2 a3 a9 ac af; generalize wt.setCell ⟨ga, i, none⟩ (.int .i64 (-1)) = wu at HVu ⊢; have b2 : wu.cell? ⟨ge, 2, none⟩ = some (.int .u8 e.f2) := (blk_cell HVu.out.ev 2).trans rfl; have b3 : wu.cell? ⟨ge, 3, none⟩ = some (.int .i64 e.f3) := (blk_cell HVu.out.ev 3).trans rfl; have b9 : wu.cell? ⟨g, 9, none⟩ = some (.slice (some ⟨ga, 0, none⟩) t.length t.length) := (blk_cell HVu.out.inv.hg 9).trans rfl; have bc : wu.cell? ⟨ga, i, none⟩ = some (.int .i64 (((upTo (laU t) t.length i).set i (-1)).getD i 0)) := numsBlk_cell HVu.out.inv.hla i (by simp only [List.length_set, upTo_length]; exact HIN.out); have bf : wu.frozen? ⟨ga, i, none⟩ = false := numsBlk_frozen HVu.out.inv.hla i; have hlk : (Instr.lookup 77 (.map (some gn)) (.int .i64 e.f3) true).run Try.prog wu = .ok (.tuple #[.int .i64 0, .bool false]) wu := (by have h1 := NU_look HVu.out.inv.hN e.f3; rw [if_pos HLK.out, decide_eq_true HLK.out] at h1; exact h1)))
           go_roundg k1
           case measure => omega
           case rel => exact ⟨i + 1, by go_num, ⟨by have := HK.out; omega⟩, ⟨by have := HIN.out; omega⟩, ⟨by
            have h1 := HVu.out.inv
            have h2 := NU_skip t i HW.out
            rw [HLA.out, h2] at h1
            exact h1⟩⟩
       · obtain ⟨lu, hlu⟩ : ∃ x, lastU t i e.f3 = x := ⟨_, rfl⟩
         have HLU := Aside0.mk hlu
         have HLK := Aside0.mk hl
         have HLA : Aside0 (((upTo (laU t) t.length i).set i (-1)).set i lu = upTo (laU t) t.length (i + 1)) := ⟨by rw [List.set_set, ← upTo_set _ _ _ HIN.out]; congr 1; unfold laU; rw [HEV.out]; exact HLU.out.symm⟩
         clear hl hlu
         cases h18 : e.f2 == 18 with
         | true =>
          have HW : Aside0 (wrB (t.getD i z24) = true) := ⟨by rw [HEV.out]; unfold wrB; rw [h18]; rfl⟩
          go_wp2_with (first | ((with_reducible refine gate_store (t := 3) (p := 64) rfl ?_); refine skipL_ (w1 := wt.setCell ⟨ga, i, none⟩ (.int .i64 (-1))) rfl rfl (by first | (go_simp; done) | (go_simp; rfl)) ?_; have HVu := Aside0.mk (HVt.out.setLa i (-1)); clear a2 a3 a9 ac af; generalize wt.setCell ⟨ga, i, none⟩ (.int .i64 (-1)) = wu at HVu ⊢; have b2 : wu.cell? ⟨ge, 2, none⟩ = some (.int .u8 e.f2) := (blk_cell HVu.out.ev 2).trans rfl; have b3 : wu.cell? ⟨ge, 3, none⟩ = some (.int .i64 e.f3) := (blk_cell HVu.out.ev 3).trans rfl; have b9 : wu.cell? ⟨g, 9, none⟩ = some (.slice (some ⟨ga, 0, none⟩) t.length t.length) := (blk_cell HVu.out.inv.hg 9).trans rfl; have bc : wu.cell? ⟨ga, i, none⟩ = some (.int .i64 (((upTo (laU t) t.length i).set i (-1)).getD i 0)) := numsBlk_cell HVu.out.inv.hla i (by simp only [List.length_set, upTo_length]; exact HIN.out); have bf : wu.frozen? ⟨ga, i, none⟩ = false := numsBlk_frozen HVu.out.inv.hla i; have hlk : (Instr.lookup 77 (.map (some gn)) (.int .i64 e.f3) true).run Try.prog wu = .ok (.tuple #[.int .i64 lu, .bool true]) wu := (by have h1 := NU_look HVu.out.inv.hN e.f3; rw [if_neg HLK.out, decide_eq_false HLK.out, HLU.out] at h1; exact h1)) | ((with_reducible refine gate_store (t := 3) (p := 79) rfl ?_); refine skipL_ (w1 := wu.setCell ⟨ga, i, none⟩ (.int .i64 lu)) rfl rfl (by first | (go_simp; done) | (go_simp; rfl)) ?_; have HVv := Aside0.mk (HVu.out.setLa i lu); clear b2 b3 b9 bc bf; generalize wu.setCell ⟨ga, i, none⟩ (.int .i64 lu) = wv at HVv ⊢; have c2 : wv.cell? ⟨ge, 2, none⟩ = some (.int .u8 e.f2) := (blk_cell HVv.out.ev 2).trans rfl; have c3 : wv.cell? ⟨ge, 3, none⟩ = some (.int .i64 e.f3) := (blk_cell HVv.out.ev 3).trans rfl; have c9 : wv.cell? ⟨g, 9, none⟩ = some (.slice (some ⟨ga, 0, none⟩) t.length t.length) := (blk_cell HVv.out.inv.hg 9).trans rfl) | ((with_reducible refine gate_update (t := 77) (x := 88) (y := 90) (z := 91) rfl ?_); obtain ⟨o3, hmu, hN3⟩ := mapUpdate_run klI Try.underlying77 HVv.out.inv.hN e.f3 (.int .i64 (i : Int)); have hmu' : (Instr.mapUpdate 77 (.map (some gn)) (.int .i64 e.f3) (.int .i64 (i : Int))).run Try.prog wv = .ok () (setBlock wv gn o3) := hmu; refine skipL_ (w1 := setBlock wv gn o3) rfl rfl (by first | (go_simp; done) | (go_simp; rfl)) ?_; have HVy := Aside0.mk (HVv.out.setN hN3); clear hmu hmu' hN3; generalize setBlock wv gn o3 = wy at HVy ⊢))
          go_roundg k1
          case measure => omega
          case rel => exact ⟨i + 1, by go_num, ⟨by have := HK.out; omega⟩, ⟨by have := HIN.out; omega⟩, ⟨by
           have h1 := HVy.out.inv
           have h2 := NU_write t i HW.out
           rw [HEV.out] at h2
           rw [HLA.out, h2] at h1
           exact h1⟩⟩
         | false =>
          cases h19 : e.f2 == 19 with
          | true =>
           have HW : Aside0 (wrB (t.getD i z24) = true) := ⟨by rw [HEV.out]; unfold wrB; rw [h18, h19]; rfl⟩
           go_wp2_with (first | ((with_reducible refine gate_store (t := 3) (p := 64) rfl ?_); refine skipL_ (w1 := wt.setCell ⟨ga, i, none⟩ (.int .i64 (-1))) rfl rfl (by first | (go_simp; done) | (go_simp; rfl)) ?_; have HVu := Aside0.mk (HVt.out.setLa i (-1)); clear a2 a3 a9 ac af; generalize wt.setCell ⟨ga, i, none⟩ (.int .i64 (-1)) = wu at HVu ⊢; have b2 : wu.cell? ⟨ge, 2, none⟩ = some (.int .u8 e.f2) := (blk_cell HVu.out.ev 2).trans rfl; have b3 : wu.cell? ⟨ge, 3, none⟩ = some (.int .i64 e.f3) := (blk_cell HVu.out.ev 3).trans rfl; have b9 : wu.cell? ⟨g, 9, none⟩ = some (.slice (some ⟨ga, 0, none⟩) t.length t.length) := (blk_cell HVu.out.inv.hg 9).trans rfl; have bc : wu.cell? ⟨ga, i, none⟩ = some (.int .i64 (((upTo (laU t) t.length i).set i (-1)).getD i 0)) := numsBlk_cell HVu.out.inv.hla i (by simp only [List.length_set, upTo_length]; exact HIN.out); have bf : wu.frozen? ⟨ga, i, none⟩ = false := numsBlk_frozen HVu.out.inv.hla i; have hlk : (Instr.lookup 77 (.map (some gn)) (.int .i64 e.f3) true).run Try.prog wu = .ok (.tuple #[.int .i64 lu, .bool true]) wu := (by have h1 := NU_look HVu.out.inv.hN e.f3; rw [if_neg HLK.out, decide_eq_false HLK.out, HLU.out] at h1; exact h1)) | ((with_reducible refine gate_store (t := 3) (p := 79) rfl ?_); refine skipL_ (w1 := wu.setCell ⟨ga, i, none⟩ (.int .i64 lu)) rfl rfl (by first | (go_simp; done) | (go_simp; rfl)) ?_; have HVv := Aside0.mk (HVu.out.setLa i lu); clear b2 b3 b9 bc bf; generalize wu.setCell ⟨ga, i, none⟩ (.int .i64 lu) = wv at HVv ⊢; have c2 : wv.cell? ⟨ge, 2, none⟩ = some (.int .u8 e.f2) := (blk_cell HVv.out.ev 2).trans rfl; have c3 : wv.cell? ⟨ge, 3, none⟩ = some (.int .i64 e.f3) := (blk_cell HVv.out.ev 3).trans rfl; have c9 : wv.cell? ⟨g, 9, none⟩ = some (.slice (some ⟨ga, 0, none⟩) t.length t.length) := (blk_cell HVv.out.inv.hg 9).trans rfl) | ((with_reducible refine gate_update (t := 77) (x := 88) (y := 90) (z := 91) rfl ?_); obtain ⟨o3, hmu, hN3⟩ := mapUpdate_run klI Try.underlying77 HVv.out.inv.hN e.f3 (.int .i64 (i : Int)); have hmu' : (Instr.mapUpdate 77 (.map (some gn)) (.int .i64 e.f3) (.int .i64 (i : Int))).run Try.prog wv = .ok () (setBlock wv gn o3) := hmu; refine skipL_ (w1 := setBlock wv gn o3) rfl rfl (by first | (go_simp; done) | (go_simp; rfl)) ?_; have HVy := Aside0.mk (HVv.out.setN hN3); clear hmu hmu' hN3; generalize setBlock wv gn o3 = wy at HVy ⊢))
           go_roundg k1
           case measure => omega
           case rel => exact ⟨i + 1, by go_num, ⟨by have := HK.out; omega⟩, ⟨by have := HIN.out; omega⟩, ⟨by
            have h1 := HVy.out.inv
            have h2 := NU_write t i HW.out
            rw [HEV.out] at h2
            rw [HLA.out, h2] at h1
            exact h1⟩⟩
          | false =>
           have HW : Aside0 (wrB (t.getD i z24) = false) := ⟨by rw [HEV.out]; unfold wrB; rw [h18, h19]; rfl⟩
           go_wp2_with (first | ((with_reducible refine gate_store (t := 3) (p := 64) rfl ?_); refine skipL_ (w1 := wt.setCell ⟨ga, i, none⟩ (.int .i64 (-1))) rfl rfl (by first | (go_simp; done) | (go_simp; rfl)) ?_; have HVu := Aside0.mk (HVt.out.setLa i (-1)); clear a2 a3 a9 ac af; generalize wt.setCell ⟨ga, i, none⟩ (.int .i64 (-1)) = wu at HVu ⊢; have b2 : wu.cell? ⟨ge, 2, none⟩ = some (.int .u8 e.f2) := (blk_cell HVu.out.ev 2).trans rfl; have b3 : wu.cell? ⟨ge, 3, none⟩ = some (.int .i64 e.f3) := (blk_cell HVu.out.ev 3).trans rfl; have b9 : wu.cell? ⟨g, 9, none⟩ = some (.slice (some ⟨ga, 0, none⟩) t.length t.length) := (blk_cell HVu.out.inv.hg 9).trans rfl; have bc : wu.cell? ⟨ga, i, none⟩ = some (.int .i64 (((upTo (laU t) t.length i).set i (-1)).getD i 0)) := numsBlk_cell HVu.out.inv.hla i (by simp only [List.length_set, upTo_length]; exact HIN.out); have bf : wu.frozen? ⟨ga, i, none⟩ = false := numsBlk_frozen HVu.out.inv.hla i; have hlk : (Instr.lookup 77 (.map (some gn)) (.int .i64 e.f3) true).run Try.prog wu = .ok (.tuple #[.int .i64 lu, .bool true]) wu := (by have h1 := NU_look HVu.out.inv.hN e.f3; rw [if_neg HLK.out, decide_eq_false HLK.out, HLU.out] at h1; exact h1)) | ((with_reducible refine gate_store (t := 3) (p := 79) rfl ?_); refine skipL_ (w1 := wu.setCell ⟨ga, i, none⟩ (.int .i64 lu)) rfl rfl (by first | (go_simp; done) | (go_simp; rfl)) ?_; have HVv := Aside0.mk (HVu.out.setLa i lu); clear b2 b3 b9 bc bf; generalize wu.setCell ⟨ga, i, none⟩ (.int .i64 lu) = wv at HVv ⊢; have c2 : wv.cell? ⟨ge, 2, none⟩ = some (.int .u8 e.f2) := (blk_cell HVv.out.ev 2).trans rfl; have c3 : wv.cell? ⟨ge, 3, none⟩ = some (.int .i64 e.f3) := (blk_cell HVv.out.ev 3).trans rfl; have c9 : wv.cell? ⟨g, 9, none⟩ = some (.slice (some ⟨ga, 0, none⟩) t.length t.length) := (blk_cell HVv.out.inv.hg 9).trans rfl))
           go_roundg k1
           case measure => omega
           case rel => exact ⟨i + 1, by go_num, ⟨by have := HK.out; omega⟩, ⟨by have := HIN.out; omega⟩, ⟨by
            have h1 := HVv.out.inv
            have h2 := NU_skip t i HW.out
            rw [HLA.out, h2] at h1
            exact h1⟩⟩
      | false =>
       have HGB : Aside0 (goesB (t.getD i z24) = false) := ⟨by rw [HEV.out]; unfold goesB; rw [HTK.out, h20]; rfl⟩
       by_cases hl : lastU t i e.f3 < 0
       · have HLK := Aside0.mk hl
         have HLA : Aside0 (((upTo (laU t) t.length i).set i (-1)) = upTo (laU t) t.length (i + 1)) := ⟨by rw [← upTo_set _ _ _ HIN.out]; congr 1; unfold laU; rw [HEV.out]; have := lastU_lo t e.f3 i; have := HLK.out; omega⟩
         clear hl
         cases h18 : e.f2 == 18 with
         | true =>
          have HW : Aside0 (wrB (t.getD i z24) = true) := ⟨by rw [HEV.out]; unfold wrB; rw [h18]; rfl⟩
          go_wp2_with (first | ((with_reducible refine gate_dst (N := 9) rfl ?_); refine box_event ?hg (N := 9) ?hd (cs := #[.int .i64 0, .int .i64 0, .int .u8 0, .int .i64 0, .int .i64 0, .int .i64 0]) (t := 24) ?hr ?_; (case hd => rfl); (case hg => rfl); (case hr => first | (go_simp; done) | (go_simp; rfl)); intro ge hge we hbe hbele; have HBE := Aside0.mk hbe; have HLE := Aside0.mk hbele; have HGE := Aside0.mk hge; clear hbe hbele hge) | ((with_reducible refine gate_store (t := 24) (p := 9) rfl ?_); have hs0 : we.cell? ⟨ge, 0, none⟩ = some (.int .i64 0) := (blk_cell HBE.out 0).trans rfl; have hf0 : we.frozen? ⟨ge, 0, none⟩ = false := blk_frozen HBE.out 0; have hs1 : we.cell? ⟨ge, 1, none⟩ = some (.int .i64 0) := (blk_cell HBE.out 1).trans rfl; have hf1 : we.frozen? ⟨ge, 1, none⟩ = false := blk_frozen HBE.out 1; have hs2 : we.cell? ⟨ge, 2, none⟩ = some (.int .u8 0) := (blk_cell HBE.out 2).trans rfl; have hf2 : we.frozen? ⟨ge, 2, none⟩ = false := blk_frozen HBE.out 2; have hs3 : we.cell? ⟨ge, 3, none⟩ = some (.int .i64 0) := (blk_cell HBE.out 3).trans rfl; have hf3 : we.frozen? ⟨ge, 3, none⟩ = false := blk_frozen HBE.out 3; have hs4 : we.cell? ⟨ge, 4, none⟩ = some (.int .i64 0) := (blk_cell HBE.out 4).trans rfl; have hf4 : we.frozen? ⟨ge, 4, none⟩ = false := blk_frozen HBE.out 4; have hs5 : we.cell? ⟨ge, 5, none⟩ = some (.int .i64 0) := (blk_cell HBE.out 5).trans rfl; have hf5 : we.frozen? ⟨ge, 5, none⟩ = false := blk_frozen HBE.out 5; refine skipL_ (w1 := put6 we ge e) rfl rfl (by go_simp; rfl) ?_; clear hs0 hf0 hs1 hf1 hs2 hf2 hs3 hf3 hs4 hf4 hs5 hf5; have HV := Aside0.mk (InvE.start (e := e) HI.out HBE.out HLE.out HGE.out); generalize put6 we ge e = wv at HV ⊢; have v0 : wv.cell? ⟨ge, 0, none⟩ = some (.int .i64 e.f0) := (blk_cell HV.out.ev 0).trans rfl; have v1 : wv.cell? ⟨ge, 1, none⟩ = some (.int .i64 e.f1) := (blk_cell HV.out.ev 1).trans rfl; have v2 : wv.cell? ⟨ge, 2, none⟩ = some (.int .u8 e.f2) := (blk_cell HV.out.ev 2).trans rfl; have v3 : wv.cell? ⟨ge, 3, none⟩ = some (.int .i64 e.f3) := (blk_cell HV.out.ev 3).trans rfl; have v4 : wv.cell? ⟨ge, 4, none⟩ = some (.int .i64 e.f4) := (blk_cell HV.out.ev 4).trans rfl; have v5 : wv.cell? ⟨ge, 5, none⟩ = some (.int .i64 e.f5) := (blk_cell HV.out.ev 5).trans rfl) | ((with_reducible refine gate_callee (f := 39) rfl ?_); (try (refine gate_guard (by rfl) ?_; dsimp only)); refine goesL_ (some 37) rfl rfl Try.func39 (by kernel_rfl) rfl #[.agg #[.int .i64 e.f0, .int .i64 e.f1, .int .u8 e.f2, .int .i64 e.f3, .int .i64 e.f4, .int .i64 e.f5]] rfl (by simp [Act.eval]) ?_; refine (takes_any _ e).mono ?_; rintro e9 w9 ⟨he9, hb9⟩; rw [HTK.out] at he9; subst he9; have HV9 := Aside0.mk (HV.out.below hb9); have u0 : w9.cell? ⟨ge, 0, none⟩ = some (.int .i64 e.f0) := (blk_cell HV9.out.ev 0).trans rfl; have u1 : w9.cell? ⟨ge, 1, none⟩ = some (.int .i64 e.f1) := (blk_cell HV9.out.ev 1).trans rfl; have u2 : w9.cell? ⟨ge, 2, none⟩ = some (.int .u8 e.f2) := (blk_cell HV9.out.ev 2).trans rfl; have u3 : w9.cell? ⟨ge, 3, none⟩ = some (.int .i64 e.f3) := (blk_cell HV9.out.ev 3).trans rfl; have u4 : w9.cell? ⟨ge, 4, none⟩ = some (.int .i64 e.f4) := (blk_cell HV9.out.ev 4).trans rfl; have u5 : w9.cell? ⟨ge, 5, none⟩ = some (.int .i64 e.f5) := (blk_cell HV9.out.ev 5).trans rfl; clear hb9; have HVt := HV9; rw [upTo_skip (plU t) t.length i (by unfold plU; rw [HGB.out]; rfl), MU_skip t i HIN.out HGB.out] at HVt; clear HV9 HV HBE HLE HGE HI v0 v1 v2 v3 v4 v5 u0 u1 u2 u3 u4 u5; have a2 : w9.cell? ⟨ge, 2, none⟩ = some (.int .u8 e.f2) := (blk_cell HVt.out.ev 2).trans rfl; have a3 : w9.cell? ⟨ge, 3, none⟩ = some (.int .i64 e.f3) := (blk_cell HVt.out.ev 3).trans rfl; have a9 : w9.cell? ⟨g, 9, none⟩ = some (.slice (some ⟨ga, 0, none⟩) t.length t.length) := (blk_cell HVt.out.inv.hg 9).trans rfl; have ac : w9.cell? ⟨ga, i, none⟩ = some (.int .i64 ((upTo (laU t) t.length i).getD i 0)) := numsBlk_cell HVt.out.inv.hla i (by simp only [List.length_set, upTo_length]; exact HIN.out); have af : w9.frozen? ⟨ga, i, none⟩ = false := numsBlk_frozen HVt.out.inv.hla i; refine ⟨_, rfl, ?_⟩) | ((with_reducible refine gate_store (t := 3) (p := 64) rfl ?_); refine skipL_ (w1 := w9.setCell ⟨ga, i, none⟩ (.int .i64 (-1))) rfl rfl (by first | (go_simp; done) | (go_simp; rfl)) ?_; have HVu := Aside0.mk (HVt.out.setLa i (-1)); clear a2 a3 a9 ac af; generalize w9.setCell ⟨ga, i, none⟩ (.int .i64 (-1)) = wu at HVu ⊢; have b2 : wu.cell? ⟨ge, 2, none⟩ = some (.int .u8 e.f2) := (blk_cell HVu.out.ev 2).trans rfl; have b3 : wu.cell? ⟨ge, 3, none⟩ = some (.int .i64 e.f3) := (blk_cell HVu.out.ev 3).trans rfl; have b9 : wu.cell? ⟨g, 9, none⟩ = some (.slice (some ⟨ga, 0, none⟩) t.length t.length) := (blk_cell HVu.out.inv.hg 9).trans rfl; have bc : wu.cell? ⟨ga, i, none⟩ = some (.int .i64 (((upTo (laU t) t.length i).set i (-1)).getD i 0)) := numsBlk_cell HVu.out.inv.hla i (by simp only [List.length_set, upTo_length]; exact HIN.out); have bf : wu.frozen? ⟨ga, i, none⟩ = false := numsBlk_frozen HVu.out.inv.hla i; have hlk : (Instr.lookup 77 (.map (some gn)) (.int .i64 e.f3) true).run Try.prog wu = .ok (.tuple #[.int .i64 0, .bool false]) wu := (by have h1 := NU_look HVu.out.inv.hN e.f3; rw [if_pos HLK.out, decide_eq_true HLK.out] at h1; exact h1)) | ((with_reducible refine gate_update (t := 77) (x := 88) (y := 90) (z := 91) rfl ?_); obtain ⟨o3, hmu, hN3⟩ := mapUpdate_run klI Try.underlying77 HVu.out.inv.hN e.f3 (.int .i64 (i : Int)); have hmu' : (Instr.mapUpdate 77 (.map (some gn)) (.int .i64 e.f3) (.int .i64 (i : Int))).run Try.prog wu = .ok () (setBlock wu gn o3) := hmu; refine skipL_ (w1 := setBlock wu gn o3) rfl rfl (by first | (go_simp; done) | (go_simp; rfl)) ?_; have HVy := Aside0.mk (HVu.out.setN hN3); clear hmu hmu' hN3; generalize setBlock wu gn o3 = wy at HVy ⊢))
          go_roundg k1
          case measure => omega
          case rel => exact ⟨i + 1, by go_num, ⟨by have := HK.out; omega⟩, ⟨by have := HIN.out; omega⟩, ⟨by
           have h1 := HVy.out.inv
           have h2 := NU_write t i HW.out
           rw [HEV.out] at h2
           rw [HLA.out, h2] at h1
           exact h1⟩⟩
         | false =>
          cases h19 : e.f2 == 19 with
          | true =>
           have HW : Aside0 (wrB (t.getD i z24) = true) := ⟨by rw [HEV.out]; unfold wrB; rw [h18, h19]; rfl⟩
           go_wp2_with (first | ((with_reducible refine gate_dst (N := 9) rfl ?_); refine box_event ?hg (N := 9) ?hd (cs := #[.int .i64 0, .int .i64 0, .int .u8 0, .int .i64 0, .int .i64 0, .int .i64 0]) (t := 24) ?hr ?_; (case hd => rfl); (case hg => rfl); (case hr => first | (go_simp; done) | (go_simp; rfl)); intro ge hge we hbe hbele; have HBE := Aside0.mk hbe; have HLE := Aside0.mk hbele; have HGE := Aside0.mk hge; clear hbe hbele hge) | ((with_reducible refine gate_store (t := 24) (p := 9) rfl ?_); have hs0 : we.cell? ⟨ge, 0, none⟩ = some (.int .i64 0) := (blk_cell HBE.out 0).trans rfl; have hf0 : we.frozen? ⟨ge, 0, none⟩ = false := blk_frozen HBE.out 0; have hs1 : we.cell? ⟨ge, 1, none⟩ = some (.int .i64 0) := (blk_cell HBE.out 1).trans rfl; have hf1 : we.frozen? ⟨ge, 1, none⟩ = false := blk_frozen HBE.out 1; have hs2 : we.cell? ⟨ge, 2, none⟩ = some (.int .u8 0) := (blk_cell HBE.out 2).trans rfl; have hf2 : we.frozen? ⟨ge, 2, none⟩ = false := blk_frozen HBE.out 2; have hs3 : we.cell? ⟨ge, 3, none⟩ = some (.int .i64 0) := (blk_cell HBE.out 3).trans rfl; have hf3 : we.frozen? ⟨ge, 3, none⟩ = false := blk_frozen HBE.out 3; have hs4 : we.cell? ⟨ge, 4, none⟩ = some (.int .i64 0) := (blk_cell HBE.out 4).trans rfl; have hf4 : we.frozen? ⟨ge, 4, none⟩ = false := blk_frozen HBE.out 4; have hs5 : we.cell? ⟨ge, 5, none⟩ = some (.int .i64 0) := (blk_cell HBE.out 5).trans rfl; have hf5 : we.frozen? ⟨ge, 5, none⟩ = false := blk_frozen HBE.out 5; refine skipL_ (w1 := put6 we ge e) rfl rfl (by go_simp; rfl) ?_; clear hs0 hf0 hs1 hf1 hs2 hf2 hs3 hf3 hs4 hf4 hs5 hf5; have HV := Aside0.mk (InvE.start (e := e) HI.out HBE.out HLE.out HGE.out); generalize put6 we ge e = wv at HV ⊢; have v0 : wv.cell? ⟨ge, 0, none⟩ = some (.int .i64 e.f0) := (blk_cell HV.out.ev 0).trans rfl; have v1 : wv.cell? ⟨ge, 1, none⟩ = some (.int .i64 e.f1) := (blk_cell HV.out.ev 1).trans rfl; have v2 : wv.cell? ⟨ge, 2, none⟩ = some (.int .u8 e.f2) := (blk_cell HV.out.ev 2).trans rfl; have v3 : wv.cell? ⟨ge, 3, none⟩ = some (.int .i64 e.f3) := (blk_cell HV.out.ev 3).trans rfl; have v4 : wv.cell? ⟨ge, 4, none⟩ = some (.int .i64 e.f4) := (blk_cell HV.out.ev 4).trans rfl; have v5 : wv.cell? ⟨ge, 5, none⟩ = some (.int .i64 e.f5) := (blk_cell HV.out.ev 5).trans rfl) | ((with_reducible refine gate_callee (f := 39) rfl ?_); (try (refine gate_guard (by rfl) ?_; dsimp only)); refine goesL_ (some 37) rfl rfl Try.func39 (by kernel_rfl) rfl #[.agg #[.int .i64 e.f0, .int .i64 e.f1, .int .u8 e.f2, .int .i64 e.f3, .int .i64 e.f4, .int .i64 e.f5]] rfl (by simp [Act.eval]) ?_; refine (takes_any _ e).mono ?_; rintro e9 w9 ⟨he9, hb9⟩; rw [HTK.out] at he9; subst he9; have HV9 := Aside0.mk (HV.out.below hb9); have u0 : w9.cell? ⟨ge, 0, none⟩ = some (.int .i64 e.f0) := (blk_cell HV9.out.ev 0).trans rfl; have u1 : w9.cell? ⟨ge, 1, none⟩ = some (.int .i64 e.f1) := (blk_cell HV9.out.ev 1).trans rfl; have u2 : w9.cell? ⟨ge, 2, none⟩ = some (.int .u8 e.f2) := (blk_cell HV9.out.ev 2).trans rfl; have u3 : w9.cell? ⟨ge, 3, none⟩ = some (.int .i64 e.f3) := (blk_cell HV9.out.ev 3).trans rfl; have u4 : w9.cell? ⟨ge, 4, none⟩ = some (.int .i64 e.f4) := (blk_cell HV9.out.ev 4).trans rfl; have u5 : w9.cell? ⟨ge, 5, none⟩ = some (.int .i64 e.f5) := (blk_cell HV9.out.ev 5).trans rfl; clear hb9; have HVt := HV9; rw [upTo_skip (plU t) t.length i (by unfold plU; rw [HGB.out]; rfl), MU_skip t i HIN.out HGB.out] at HVt; clear HV9 HV HBE HLE HGE HI v0 v1 v2 v3 v4 v5 u0 u1 u2 u3 u4 u5; have a2 : w9.cell? ⟨ge, 2, none⟩ = some (.int .u8 e.f2) := (blk_cell HVt.out.ev 2).trans rfl; have a3 : w9.cell? ⟨ge, 3, none⟩ = some (.int .i64 e.f3) := (blk_cell HVt.out.ev 3).trans rfl; have a9 : w9.cell? ⟨g, 9, none⟩ = some (.slice (some ⟨ga, 0, none⟩) t.length t.length) := (blk_cell HVt.out.inv.hg 9).trans rfl; have ac : w9.cell? ⟨ga, i, none⟩ = some (.int .i64 ((upTo (laU t) t.length i).getD i 0)) := numsBlk_cell HVt.out.inv.hla i (by simp only [List.length_set, upTo_length]; exact HIN.out); have af : w9.frozen? ⟨ga, i, none⟩ = false := numsBlk_frozen HVt.out.inv.hla i; refine ⟨_, rfl, ?_⟩) | ((with_reducible refine gate_store (t := 3) (p := 64) rfl ?_); refine skipL_ (w1 := w9.setCell ⟨ga, i, none⟩ (.int .i64 (-1))) rfl rfl (by first | (go_simp; done) | (go_simp; rfl)) ?_; have HVu := Aside0.mk (HVt.out.setLa i (-1)); clear a2 a3 a9 ac af; generalize w9.setCell ⟨ga, i, none⟩ (.int .i64 (-1)) = wu at HVu ⊢; have b2 : wu.cell? ⟨ge, 2, none⟩ = some (.int .u8 e.f2) := (blk_cell HVu.out.ev 2).trans rfl; have b3 : wu.cell? ⟨ge, 3, none⟩ = some (.int .i64 e.f3) := (blk_cell HVu.out.ev 3).trans rfl; have b9 : wu.cell? ⟨g, 9, none⟩ = some (.slice (some ⟨ga, 0, none⟩) t.length t.length) := (blk_cell HVu.out.inv.hg 9).trans rfl; have bc : wu.cell? ⟨ga, i, none⟩ = some (.int .i64 (((upTo (laU t) t.length i).set i (-1)).getD i 0)) := numsBlk_cell HVu.out.inv.hla i (by simp only [List.length_set, upTo_length]; exact HIN.out); have bf : wu.frozen? ⟨ga, i, none⟩ = false := numsBlk_frozen HVu.out.inv.hla i; have hlk : (Instr.lookup 77 (.map (some gn)) (.int .i64 e.f3) true).run Try.prog wu = .ok (.tuple #[.int .i64 0, .bool false]) wu := (by have h1 := NU_look HVu.out.inv.hN e.f3; rw [if_pos HLK.out, decide_eq_true HLK.out] at h1; exact h1)) | ((with_reducible refine gate_update (t := 77) (x := 88) (y := 90) (z := 91) rfl ?_); obtain ⟨o3, hmu, hN3⟩ := mapUpdate_run klI Try.underlying77 HVu.out.inv.hN e.f3 (.int .i64 (i : Int)); have hmu' : (Instr.mapUpdate 77 (.map (some gn)) (.int .i64 e.f3) (.int .i64 (i : Int))).run Try.prog wu = .ok () (setBlock wu gn o3) := hmu; refine skipL_ (w1 := setBlock wu gn o3) rfl rfl (by first | (go_simp; done) | (go_simp; rfl)) ?_; have HVy := Aside0.mk (HVu.out.setN hN3); clear hmu hmu' hN3; generalize setBlock wu gn o3 = wy at HVy ⊢))
           go_roundg k1
           case measure => omega
           case rel => exact ⟨i + 1, by go_num, ⟨by have := HK.out; omega⟩, ⟨by have := HIN.out; omega⟩, ⟨by
            have h1 := HVy.out.inv
            have h2 := NU_write t i HW.out
            rw [HEV.out] at h2
            rw [HLA.out, h2] at h1
            exact h1⟩⟩
          | false =>
           have HW : Aside0 (wrB (t.getD i z24) = false) := ⟨by rw [HEV.out]; unfold wrB; rw [h18, h19]; rfl⟩
           go_wp2_with (first | ((with_reducible refine gate_dst (N := 9) rfl ?_); refine box_event ?hg (N := 9) ?hd (cs := #[.int .i64 0, .int .i64 0, .int .u8 0, .int .i64 0, .int .i64 0, .int .i64 0]) (t := 24) ?hr ?_; (case hd => rfl); (case hg => rfl); (case hr => first | (go_simp; done) | (go_simp; rfl)); intro ge hge we hbe hbele; have HBE := Aside0.mk hbe; have HLE := Aside0.mk hbele; have HGE := Aside0.mk hge; clear hbe hbele hge) | ((with_reducible refine gate_store (t := 24) (p := 9) rfl ?_); have hs0 : we.cell? ⟨ge, 0, none⟩ = some (.int .i64 0) := (blk_cell HBE.out 0).trans rfl; have hf0 : we.frozen? ⟨ge, 0, none⟩ = false := blk_frozen HBE.out 0; have hs1 : we.cell? ⟨ge, 1, none⟩ = some (.int .i64 0) := (blk_cell HBE.out 1).trans rfl; have hf1 : we.frozen? ⟨ge, 1, none⟩ = false := blk_frozen HBE.out 1; have hs2 : we.cell? ⟨ge, 2, none⟩ = some (.int .u8 0) := (blk_cell HBE.out 2).trans rfl; have hf2 : we.frozen? ⟨ge, 2, none⟩ = false := blk_frozen HBE.out 2; have hs3 : we.cell? ⟨ge, 3, none⟩ = some (.int .i64 0) := (blk_cell HBE.out 3).trans rfl; have hf3 : we.frozen? ⟨ge, 3, none⟩ = false := blk_frozen HBE.out 3; have hs4 : we.cell? ⟨ge, 4, none⟩ = some (.int .i64 0) := (blk_cell HBE.out 4).trans rfl; have hf4 : we.frozen? ⟨ge, 4, none⟩ = false := blk_frozen HBE.out 4; have hs5 : we.cell? ⟨ge, 5, none⟩ = some (.int .i64 0) := (blk_cell HBE.out 5).trans rfl; have hf5 : we.frozen? ⟨ge, 5, none⟩ = false := blk_frozen HBE.out 5; refine skipL_ (w1 := put6 we ge e) rfl rfl (by go_simp; rfl) ?_; clear hs0 hf0 hs1 hf1 hs2 hf2 hs3 hf3 hs4 hf4 hs5 hf5; have HV := Aside0.mk (InvE.start (e := e) HI.out HBE.out HLE.out HGE.out); generalize put6 we ge e = wv at HV ⊢; have v0 : wv.cell? ⟨ge, 0, none⟩ = some (.int .i64 e.f0) := (blk_cell HV.out.ev 0).trans rfl; have v1 : wv.cell? ⟨ge, 1, none⟩ = some (.int .i64 e.f1) := (blk_cell HV.out.ev 1).trans rfl; have v2 : wv.cell? ⟨ge, 2, none⟩ = some (.int .u8 e.f2) := (blk_cell HV.out.ev 2).trans rfl; have v3 : wv.cell? ⟨ge, 3, none⟩ = some (.int .i64 e.f3) := (blk_cell HV.out.ev 3).trans rfl; have v4 : wv.cell? ⟨ge, 4, none⟩ = some (.int .i64 e.f4) := (blk_cell HV.out.ev 4).trans rfl; have v5 : wv.cell? ⟨ge, 5, none⟩ = some (.int .i64 e.f5) := (blk_cell HV.out.ev 5).trans rfl) | ((with_reducible refine gate_callee (f := 39) rfl ?_); (try (refine gate_guard (by rfl) ?_; dsimp only)); refine goesL_ (some 37) rfl rfl Try.func39 (by kernel_rfl) rfl #[.agg #[.int .i64 e.f0, .int .i64 e.f1, .int .u8 e.f2, .int .i64 e.f3, .int .i64 e.f4, .int .i64 e.f5]] rfl (by simp [Act.eval]) ?_; refine (takes_any _ e).mono ?_; rintro e9 w9 ⟨he9, hb9⟩; rw [HTK.out] at he9; subst he9; have HV9 := Aside0.mk (HV.out.below hb9); have u0 : w9.cell? ⟨ge, 0, none⟩ = some (.int .i64 e.f0) := (blk_cell HV9.out.ev 0).trans rfl; have u1 : w9.cell? ⟨ge, 1, none⟩ = some (.int .i64 e.f1) := (blk_cell HV9.out.ev 1).trans rfl; have u2 : w9.cell? ⟨ge, 2, none⟩ = some (.int .u8 e.f2) := (blk_cell HV9.out.ev 2).trans rfl; have u3 : w9.cell? ⟨ge, 3, none⟩ = some (.int .i64 e.f3) := (blk_cell HV9.out.ev 3).trans rfl; have u4 : w9.cell? ⟨ge, 4, none⟩ = some (.int .i64 e.f4) := (blk_cell HV9.out.ev 4).trans rfl; have u5 : w9.cell? ⟨ge, 5, none⟩ = some (.int .i64 e.f5) := (blk_cell HV9.out.ev 5).trans rfl; clear hb9; have HVt := HV9; rw [upTo_skip (plU t) t.length i (by unfold plU; rw [HGB.out]; rfl), MU_skip t i HIN.out HGB.out] at HVt; clear HV9 HV HBE HLE HGE HI v0 v1 v2 v3 v4 v5 u0 u1 u2 u3 u4 u5; have a2 : w9.cell? ⟨ge, 2, none⟩ = some (.int .u8 e.f2) := (blk_cell HVt.out.ev 2).trans rfl; have a3 : w9.cell? ⟨ge, 3, none⟩ = some (.int .i64 e.f3) := (blk_cell HVt.out.ev 3).trans rfl; have a9 : w9.cell? ⟨g, 9, none⟩ = some (.slice (some ⟨ga, 0, none⟩) t.length t.length) := (blk_cell HVt.out.inv.hg 9).trans rfl; have ac : w9.cell? ⟨ga, i, none⟩ = some (.int .i64 ((upTo (laU t) t.length i).getD i 0)) := numsBlk_cell HVt.out.inv.hla i (by simp only [List.length_set, upTo_length]; exact HIN.out); have af : w9.frozen? ⟨ga, i, none⟩ = false := numsBlk_frozen HVt.out.inv.hla i; refine ⟨_, rfl, ?_⟩) | ((with_reducible refine gate_store (t := 3) (p := 64) rfl ?_); refine skipL_ (w1 := w9.setCell ⟨ga, i, none⟩ (.int .i64 (-1))) rfl rfl (by first | (go_simp; done) | (go_simp; rfl)) ?_; have HVu := Aside0.mk (HVt.out.setLa i (-1)); clear a2 a3 a9 ac af; generalize w9.setCell ⟨ga, i, none⟩ (.int .i64 (-1)) = wu at HVu ⊢; have b2 : wu.cell? ⟨ge, 2, none⟩ = some (.int .u8 e.f2) := (blk_cell HVu.out.ev 2).trans rfl; have b3 : wu.cell? ⟨ge, 3, none⟩ = some (.int .i64 e.f3) := (blk_cell HVu.out.ev 3).trans rfl; have b9 : wu.cell? ⟨g, 9, none⟩ = some (.slice (some ⟨ga, 0, none⟩) t.length t.length) := (blk_cell HVu.out.inv.hg 9).trans rfl; have bc : wu.cell? ⟨ga, i, none⟩ = some (.int .i64 (((upTo (laU t) t.length i).set i (-1)).getD i 0)) := numsBlk_cell HVu.out.inv.hla i (by simp only [List.length_set, upTo_length]; exact HIN.out); have bf : wu.frozen? ⟨ga, i, none⟩ = false := numsBlk_frozen HVu.out.inv.hla i; have hlk : (Instr.lookup 77 (.map (some gn)) (.int .i64 e.f3) true).run Try.prog wu = .ok (.tuple #[.int .i64 0, .bool false]) wu := (by have h1 := NU_look HVu.out.inv.hN e.f3; rw [if_pos HLK.out, decide_eq_true HLK.out] at h1; exact h1)))
           go_roundg k1
           case measure => omega
           case rel => exact ⟨i + 1, by go_num, ⟨by have := HK.out; omega⟩, ⟨by have := HIN.out; omega⟩, ⟨by
            have h1 := HVu.out.inv
            have h2 := NU_skip t i HW.out
            rw [HLA.out, h2] at h1
            exact h1⟩⟩
       · obtain ⟨lu, hlu⟩ : ∃ x, lastU t i e.f3 = x := ⟨_, rfl⟩
         have HLU := Aside0.mk hlu
         have HLK := Aside0.mk hl
         have HLA : Aside0 (((upTo (laU t) t.length i).set i (-1)).set i lu = upTo (laU t) t.length (i + 1)) := ⟨by rw [List.set_set, ← upTo_set _ _ _ HIN.out]; congr 1; unfold laU; rw [HEV.out]; exact HLU.out.symm⟩
         clear hl hlu
         cases h18 : e.f2 == 18 with
         | true =>
          have HW : Aside0 (wrB (t.getD i z24) = true) := ⟨by rw [HEV.out]; unfold wrB; rw [h18]; rfl⟩
          go_wp2_with (first | ((with_reducible refine gate_dst (N := 9) rfl ?_); refine box_event ?hg (N := 9) ?hd (cs := #[.int .i64 0, .int .i64 0, .int .u8 0, .int .i64 0, .int .i64 0, .int .i64 0]) (t := 24) ?hr ?_; (case hd => rfl); (case hg => rfl); (case hr => first | (go_simp; done) | (go_simp; rfl)); intro ge hge we hbe hbele; have HBE := Aside0.mk hbe; have HLE := Aside0.mk hbele; have HGE := Aside0.mk hge; clear hbe hbele hge) | ((with_reducible refine gate_store (t := 24) (p := 9) rfl ?_); have hs0 : we.cell? ⟨ge, 0, none⟩ = some (.int .i64 0) := (blk_cell HBE.out 0).trans rfl; have hf0 : we.frozen? ⟨ge, 0, none⟩ = false := blk_frozen HBE.out 0; have hs1 : we.cell? ⟨ge, 1, none⟩ = some (.int .i64 0) := (blk_cell HBE.out 1).trans rfl; have hf1 : we.frozen? ⟨ge, 1, none⟩ = false := blk_frozen HBE.out 1; have hs2 : we.cell? ⟨ge, 2, none⟩ = some (.int .u8 0) := (blk_cell HBE.out 2).trans rfl; have hf2 : we.frozen? ⟨ge, 2, none⟩ = false := blk_frozen HBE.out 2; have hs3 : we.cell? ⟨ge, 3, none⟩ = some (.int .i64 0) := (blk_cell HBE.out 3).trans rfl; have hf3 : we.frozen? ⟨ge, 3, none⟩ = false := blk_frozen HBE.out 3; have hs4 : we.cell? ⟨ge, 4, none⟩ = some (.int .i64 0) := (blk_cell HBE.out 4).trans rfl; have hf4 : we.frozen? ⟨ge, 4, none⟩ = false := blk_frozen HBE.out 4; have hs5 : we.cell? ⟨ge, 5, none⟩ = some (.int .i64 0) := (blk_cell HBE.out 5).trans rfl; have hf5 : we.frozen? ⟨ge, 5, none⟩ = false := blk_frozen HBE.out 5; refine skipL_ (w1 := put6 we ge e) rfl rfl (by go_simp; rfl) ?_; clear hs0 hf0 hs1 hf1 hs2 hf2 hs3 hf3 hs4 hf4 hs5 hf5; have HV := Aside0.mk (InvE.start (e := e) HI.out HBE.out HLE.out HGE.out); generalize put6 we ge e = wv at HV ⊢; have v0 : wv.cell? ⟨ge, 0, none⟩ = some (.int .i64 e.f0) := (blk_cell HV.out.ev 0).trans rfl; have v1 : wv.cell? ⟨ge, 1, none⟩ = some (.int .i64 e.f1) := (blk_cell HV.out.ev 1).trans rfl; have v2 : wv.cell? ⟨ge, 2, none⟩ = some (.int .u8 e.f2) := (blk_cell HV.out.ev 2).trans rfl; have v3 : wv.cell? ⟨ge, 3, none⟩ = some (.int .i64 e.f3) := (blk_cell HV.out.ev 3).trans rfl; have v4 : wv.cell? ⟨ge, 4, none⟩ = some (.int .i64 e.f4) := (blk_cell HV.out.ev 4).trans rfl; have v5 : wv.cell? ⟨ge, 5, none⟩ = some (.int .i64 e.f5) := (blk_cell HV.out.ev 5).trans rfl) | ((with_reducible refine gate_callee (f := 39) rfl ?_); (try (refine gate_guard (by rfl) ?_; dsimp only)); refine goesL_ (some 37) rfl rfl Try.func39 (by kernel_rfl) rfl #[.agg #[.int .i64 e.f0, .int .i64 e.f1, .int .u8 e.f2, .int .i64 e.f3, .int .i64 e.f4, .int .i64 e.f5]] rfl (by simp [Act.eval]) ?_; refine (takes_any _ e).mono ?_; rintro e9 w9 ⟨he9, hb9⟩; rw [HTK.out] at he9; subst he9; have HV9 := Aside0.mk (HV.out.below hb9); have u0 : w9.cell? ⟨ge, 0, none⟩ = some (.int .i64 e.f0) := (blk_cell HV9.out.ev 0).trans rfl; have u1 : w9.cell? ⟨ge, 1, none⟩ = some (.int .i64 e.f1) := (blk_cell HV9.out.ev 1).trans rfl; have u2 : w9.cell? ⟨ge, 2, none⟩ = some (.int .u8 e.f2) := (blk_cell HV9.out.ev 2).trans rfl; have u3 : w9.cell? ⟨ge, 3, none⟩ = some (.int .i64 e.f3) := (blk_cell HV9.out.ev 3).trans rfl; have u4 : w9.cell? ⟨ge, 4, none⟩ = some (.int .i64 e.f4) := (blk_cell HV9.out.ev 4).trans rfl; have u5 : w9.cell? ⟨ge, 5, none⟩ = some (.int .i64 e.f5) := (blk_cell HV9.out.ev 5).trans rfl; clear hb9; have HVt := HV9; rw [upTo_skip (plU t) t.length i (by unfold plU; rw [HGB.out]; rfl), MU_skip t i HIN.out HGB.out] at HVt; clear HV9 HV HBE HLE HGE HI v0 v1 v2 v3 v4 v5 u0 u1 u2 u3 u4 u5; have a2 : w9.cell? ⟨ge, 2, none⟩ = some (.int .u8 e.f2) := (blk_cell HVt.out.ev 2).trans rfl; have a3 : w9.cell? ⟨ge, 3, none⟩ = some (.int .i64 e.f3) := (blk_cell HVt.out.ev 3).trans rfl; have a9 : w9.cell? ⟨g, 9, none⟩ = some (.slice (some ⟨ga, 0, none⟩) t.length t.length) := (blk_cell HVt.out.inv.hg 9).trans rfl; have ac : w9.cell? ⟨ga, i, none⟩ = some (.int .i64 ((upTo (laU t) t.length i).getD i 0)) := numsBlk_cell HVt.out.inv.hla i (by simp only [List.length_set, upTo_length]; exact HIN.out); have af : w9.frozen? ⟨ga, i, none⟩ = false := numsBlk_frozen HVt.out.inv.hla i; refine ⟨_, rfl, ?_⟩) | ((with_reducible refine gate_store (t := 3) (p := 64) rfl ?_); refine skipL_ (w1 := w9.setCell ⟨ga, i, none⟩ (.int .i64 (-1))) rfl rfl (by first | (go_simp; done) | (go_simp; rfl)) ?_; have HVu := Aside0.mk (HVt.out.setLa i (-1)); clear a2 a3 a9 ac af; generalize w9.setCell ⟨ga, i, none⟩ (.int .i64 (-1)) = wu at HVu ⊢; have b2 : wu.cell? ⟨ge, 2, none⟩ = some (.int .u8 e.f2) := (blk_cell HVu.out.ev 2).trans rfl; have b3 : wu.cell? ⟨ge, 3, none⟩ = some (.int .i64 e.f3) := (blk_cell HVu.out.ev 3).trans rfl; have b9 : wu.cell? ⟨g, 9, none⟩ = some (.slice (some ⟨ga, 0, none⟩) t.length t.length) := (blk_cell HVu.out.inv.hg 9).trans rfl; have bc : wu.cell? ⟨ga, i, none⟩ = some (.int .i64 (((upTo (laU t) t.length i).set i (-1)).getD i 0)) := numsBlk_cell HVu.out.inv.hla i (by simp only [List.length_set, upTo_length]; exact HIN.out); have bf : wu.frozen? ⟨ga, i, none⟩ = false := numsBlk_frozen HVu.out.inv.hla i; have hlk : (Instr.lookup 77 (.map (some gn)) (.int .i64 e.f3) true).run Try.prog wu = .ok (.tuple #[.int .i64 lu, .bool true]) wu := (by have h1 := NU_look HVu.out.inv.hN e.f3; rw [if_neg HLK.out, decide_eq_false HLK.out, HLU.out] at h1; exact h1)) | ((with_reducible refine gate_store (t := 3) (p := 79) rfl ?_); refine skipL_ (w1 := wu.setCell ⟨ga, i, none⟩ (.int .i64 lu)) rfl rfl (by first | (go_simp; done) | (go_simp; rfl)) ?_; have HVv := Aside0.mk (HVu.out.setLa i lu); clear b2 b3 b9 bc bf; generalize wu.setCell ⟨ga, i, none⟩ (.int .i64 lu) = wv at HVv ⊢; have c2 : wv.cell? ⟨ge, 2, none⟩ = some (.int .u8 e.f2) := (blk_cell HVv.out.ev 2).trans rfl; have c3 : wv.cell? ⟨ge, 3, none⟩ = some (.int .i64 e.f3) := (blk_cell HVv.out.ev 3).trans rfl; have c9 : wv.cell? ⟨g, 9, none⟩ = some (.slice (some ⟨ga, 0, none⟩) t.length t.length) := (blk_cell HVv.out.inv.hg 9).trans rfl) | ((with_reducible refine gate_update (t := 77) (x := 88) (y := 90) (z := 91) rfl ?_); obtain ⟨o3, hmu, hN3⟩ := mapUpdate_run klI Try.underlying77 HVv.out.inv.hN e.f3 (.int .i64 (i : Int)); have hmu' : (Instr.mapUpdate 77 (.map (some gn)) (.int .i64 e.f3) (.int .i64 (i : Int))).run Try.prog wv = .ok () (setBlock wv gn o3) := hmu; refine skipL_ (w1 := setBlock wv gn o3) rfl rfl (by first | (go_simp; done) | (go_simp; rfl)) ?_; have HVy := Aside0.mk (HVv.out.setN hN3); clear hmu hmu' hN3; generalize setBlock wv gn o3 = wy at HVy ⊢))
          go_roundg k1
          case measure => omega
          case rel => exact ⟨i + 1, by go_num, ⟨by have := HK.out; omega⟩, ⟨by have := HIN.out; omega⟩, ⟨by
           have h1 := HVy.out.inv
           have h2 := NU_write t i HW.out
           rw [HEV.out] at h2
           rw [HLA.out, h2] at h1
           exact h1⟩⟩
         | false =>
          cases h19 : e.f2 == 19 with
          | true =>
           have HW : Aside0 (wrB (t.getD i z24) = true) := ⟨by rw [HEV.out]; unfold wrB; rw [h18, h19]; rfl⟩
           go_wp2_with (first | ((with_reducible refine gate_dst (N := 9) rfl ?_); refine box_event ?hg (N := 9) ?hd (cs := #[.int .i64 0, .int .i64 0, .int .u8 0, .int .i64 0, .int .i64 0, .int .i64 0]) (t := 24) ?hr ?_; (case hd => rfl); (case hg => rfl); (case hr => first | (go_simp; done) | (go_simp; rfl)); intro ge hge we hbe hbele; have HBE := Aside0.mk hbe; have HLE := Aside0.mk hbele; have HGE := Aside0.mk hge; clear hbe hbele hge) | ((with_reducible refine gate_store (t := 24) (p := 9) rfl ?_); have hs0 : we.cell? ⟨ge, 0, none⟩ = some (.int .i64 0) := (blk_cell HBE.out 0).trans rfl; have hf0 : we.frozen? ⟨ge, 0, none⟩ = false := blk_frozen HBE.out 0; have hs1 : we.cell? ⟨ge, 1, none⟩ = some (.int .i64 0) := (blk_cell HBE.out 1).trans rfl; have hf1 : we.frozen? ⟨ge, 1, none⟩ = false := blk_frozen HBE.out 1; have hs2 : we.cell? ⟨ge, 2, none⟩ = some (.int .u8 0) := (blk_cell HBE.out 2).trans rfl; have hf2 : we.frozen? ⟨ge, 2, none⟩ = false := blk_frozen HBE.out 2; have hs3 : we.cell? ⟨ge, 3, none⟩ = some (.int .i64 0) := (blk_cell HBE.out 3).trans rfl; have hf3 : we.frozen? ⟨ge, 3, none⟩ = false := blk_frozen HBE.out 3; have hs4 : we.cell? ⟨ge, 4, none⟩ = some (.int .i64 0) := (blk_cell HBE.out 4).trans rfl; have hf4 : we.frozen? ⟨ge, 4, none⟩ = false := blk_frozen HBE.out 4; have hs5 : we.cell? ⟨ge, 5, none⟩ = some (.int .i64 0) := (blk_cell HBE.out 5).trans rfl; have hf5 : we.frozen? ⟨ge, 5, none⟩ = false := blk_frozen HBE.out 5; refine skipL_ (w1 := put6 we ge e) rfl rfl (by go_simp; rfl) ?_; clear hs0 hf0 hs1 hf1 hs2 hf2 hs3 hf3 hs4 hf4 hs5 hf5; have HV := Aside0.mk (InvE.start (e := e) HI.out HBE.out HLE.out HGE.out); generalize put6 we ge e = wv at HV ⊢; have v0 : wv.cell? ⟨ge, 0, none⟩ = some (.int .i64 e.f0) := (blk_cell HV.out.ev 0).trans rfl; have v1 : wv.cell? ⟨ge, 1, none⟩ = some (.int .i64 e.f1) := (blk_cell HV.out.ev 1).trans rfl; have v2 : wv.cell? ⟨ge, 2, none⟩ = some (.int .u8 e.f2) := (blk_cell HV.out.ev 2).trans rfl; have v3 : wv.cell? ⟨ge, 3, none⟩ = some (.int .i64 e.f3) := (blk_cell HV.out.ev 3).trans rfl; have v4 : wv.cell? ⟨ge, 4, none⟩ = some (.int .i64 e.f4) := (blk_cell HV.out.ev 4).trans rfl; have v5 : wv.cell? ⟨ge, 5, none⟩ = some (.int .i64 e.f5) := (blk_cell HV.out.ev 5).trans rfl) | ((with_reducible refine gate_callee (f := 39) rfl ?_); (try (refine gate_guard (by rfl) ?_; dsimp only)); refine goesL_ (some 37) rfl rfl Try.func39 (by kernel_rfl) rfl #[.agg #[.int .i64 e.f0, .int .i64 e.f1, .int .u8 e.f2, .int .i64 e.f3, .int .i64 e.f4, .int .i64 e.f5]] rfl (by simp [Act.eval]) ?_; refine (takes_any _ e).mono ?_; rintro e9 w9 ⟨he9, hb9⟩; rw [HTK.out] at he9; subst he9; have HV9 := Aside0.mk (HV.out.below hb9); have u0 : w9.cell? ⟨ge, 0, none⟩ = some (.int .i64 e.f0) := (blk_cell HV9.out.ev 0).trans rfl; have u1 : w9.cell? ⟨ge, 1, none⟩ = some (.int .i64 e.f1) := (blk_cell HV9.out.ev 1).trans rfl; have u2 : w9.cell? ⟨ge, 2, none⟩ = some (.int .u8 e.f2) := (blk_cell HV9.out.ev 2).trans rfl; have u3 : w9.cell? ⟨ge, 3, none⟩ = some (.int .i64 e.f3) := (blk_cell HV9.out.ev 3).trans rfl; have u4 : w9.cell? ⟨ge, 4, none⟩ = some (.int .i64 e.f4) := (blk_cell HV9.out.ev 4).trans rfl; have u5 : w9.cell? ⟨ge, 5, none⟩ = some (.int .i64 e.f5) := (blk_cell HV9.out.ev 5).trans rfl; clear hb9; have HVt := HV9; rw [upTo_skip (plU t) t.length i (by unfold plU; rw [HGB.out]; rfl), MU_skip t i HIN.out HGB.out] at HVt; clear HV9 HV HBE HLE HGE HI v0 v1 v2 v3 v4 v5 u0 u1 u2 u3 u4 u5; have a2 : w9.cell? ⟨ge, 2, none⟩ = some (.int .u8 e.f2) := (blk_cell HVt.out.ev 2).trans rfl; have a3 : w9.cell? ⟨ge, 3, none⟩ = some (.int .i64 e.f3) := (blk_cell HVt.out.ev 3).trans rfl; have a9 : w9.cell? ⟨g, 9, none⟩ = some (.slice (some ⟨ga, 0, none⟩) t.length t.length) := (blk_cell HVt.out.inv.hg 9).trans rfl; have ac : w9.cell? ⟨ga, i, none⟩ = some (.int .i64 ((upTo (laU t) t.length i).getD i 0)) := numsBlk_cell HVt.out.inv.hla i (by simp only [List.length_set, upTo_length]; exact HIN.out); have af : w9.frozen? ⟨ga, i, none⟩ = false := numsBlk_frozen HVt.out.inv.hla i; refine ⟨_, rfl, ?_⟩) | ((with_reducible refine gate_store (t := 3) (p := 64) rfl ?_); refine skipL_ (w1 := w9.setCell ⟨ga, i, none⟩ (.int .i64 (-1))) rfl rfl (by first | (go_simp; done) | (go_simp; rfl)) ?_; have HVu := Aside0.mk (HVt.out.setLa i (-1)); clear a2 a3 a9 ac af; generalize w9.setCell ⟨ga, i, none⟩ (.int .i64 (-1)) = wu at HVu ⊢; have b2 : wu.cell? ⟨ge, 2, none⟩ = some (.int .u8 e.f2) := (blk_cell HVu.out.ev 2).trans rfl; have b3 : wu.cell? ⟨ge, 3, none⟩ = some (.int .i64 e.f3) := (blk_cell HVu.out.ev 3).trans rfl; have b9 : wu.cell? ⟨g, 9, none⟩ = some (.slice (some ⟨ga, 0, none⟩) t.length t.length) := (blk_cell HVu.out.inv.hg 9).trans rfl; have bc : wu.cell? ⟨ga, i, none⟩ = some (.int .i64 (((upTo (laU t) t.length i).set i (-1)).getD i 0)) := numsBlk_cell HVu.out.inv.hla i (by simp only [List.length_set, upTo_length]; exact HIN.out); have bf : wu.frozen? ⟨ga, i, none⟩ = false := numsBlk_frozen HVu.out.inv.hla i; have hlk : (Instr.lookup 77 (.map (some gn)) (.int .i64 e.f3) true).run Try.prog wu = .ok (.tuple #[.int .i64 lu, .bool true]) wu := (by have h1 := NU_look HVu.out.inv.hN e.f3; rw [if_neg HLK.out, decide_eq_false HLK.out, HLU.out] at h1; exact h1)) | ((with_reducible refine gate_store (t := 3) (p := 79) rfl ?_); refine skipL_ (w1 := wu.setCell ⟨ga, i, none⟩ (.int .i64 lu)) rfl rfl (by first | (go_simp; done) | (go_simp; rfl)) ?_; have HVv := Aside0.mk (HVu.out.setLa i lu); clear b2 b3 b9 bc bf; generalize wu.setCell ⟨ga, i, none⟩ (.int .i64 lu) = wv at HVv ⊢; have c2 : wv.cell? ⟨ge, 2, none⟩ = some (.int .u8 e.f2) := (blk_cell HVv.out.ev 2).trans rfl; have c3 : wv.cell? ⟨ge, 3, none⟩ = some (.int .i64 e.f3) := (blk_cell HVv.out.ev 3).trans rfl; have c9 : wv.cell? ⟨g, 9, none⟩ = some (.slice (some ⟨ga, 0, none⟩) t.length t.length) := (blk_cell HVv.out.inv.hg 9).trans rfl) | ((with_reducible refine gate_update (t := 77) (x := 88) (y := 90) (z := 91) rfl ?_); obtain ⟨o3, hmu, hN3⟩ := mapUpdate_run klI Try.underlying77 HVv.out.inv.hN e.f3 (.int .i64 (i : Int)); have hmu' : (Instr.mapUpdate 77 (.map (some gn)) (.int .i64 e.f3) (.int .i64 (i : Int))).run Try.prog wv = .ok () (setBlock wv gn o3) := hmu; refine skipL_ (w1 := setBlock wv gn o3) rfl rfl (by first | (go_simp; done) | (go_simp; rfl)) ?_; have HVy := Aside0.mk (HVv.out.setN hN3); clear hmu hmu' hN3; generalize setBlock wv gn o3 = wy at HVy ⊢))
           go_roundg k1
           case measure => omega
           case rel => exact ⟨i + 1, by go_num, ⟨by have := HK.out; omega⟩, ⟨by have := HIN.out; omega⟩, ⟨by
            have h1 := HVy.out.inv
            have h2 := NU_write t i HW.out
            rw [HEV.out] at h2
            rw [HLA.out, h2] at h1
            exact h1⟩⟩
          | false =>
           have HW : Aside0 (wrB (t.getD i z24) = false) := ⟨by rw [HEV.out]; unfold wrB; rw [h18, h19]; rfl⟩
           go_wp2_with (first | ((with_reducible refine gate_dst (N := 9) rfl ?_); refine box_event ?hg (N := 9) ?hd (cs := #[.int .i64 0, .int .i64 0, .int .u8 0, .int .i64 0, .int .i64 0, .int .i64 0]) (t := 24) ?hr ?_; (case hd => rfl); (case hg => rfl); (case hr => first | (go_simp; done) | (go_simp; rfl)); intro ge hge we hbe hbele; have HBE := Aside0.mk hbe; have HLE := Aside0.mk hbele; have HGE := Aside0.mk hge; clear hbe hbele hge) | ((with_reducible refine gate_store (t := 24) (p := 9) rfl ?_); have hs0 : we.cell? ⟨ge, 0, none⟩ = some (.int .i64 0) := (blk_cell HBE.out 0).trans rfl; have hf0 : we.frozen? ⟨ge, 0, none⟩ = false := blk_frozen HBE.out 0; have hs1 : we.cell? ⟨ge, 1, none⟩ = some (.int .i64 0) := (blk_cell HBE.out 1).trans rfl; have hf1 : we.frozen? ⟨ge, 1, none⟩ = false := blk_frozen HBE.out 1; have hs2 : we.cell? ⟨ge, 2, none⟩ = some (.int .u8 0) := (blk_cell HBE.out 2).trans rfl; have hf2 : we.frozen? ⟨ge, 2, none⟩ = false := blk_frozen HBE.out 2; have hs3 : we.cell? ⟨ge, 3, none⟩ = some (.int .i64 0) := (blk_cell HBE.out 3).trans rfl; have hf3 : we.frozen? ⟨ge, 3, none⟩ = false := blk_frozen HBE.out 3; have hs4 : we.cell? ⟨ge, 4, none⟩ = some (.int .i64 0) := (blk_cell HBE.out 4).trans rfl; have hf4 : we.frozen? ⟨ge, 4, none⟩ = false := blk_frozen HBE.out 4; have hs5 : we.cell? ⟨ge, 5, none⟩ = some (.int .i64 0) := (blk_cell HBE.out 5).trans rfl; have hf5 : we.frozen? ⟨ge, 5, none⟩ = false := blk_frozen HBE.out 5; refine skipL_ (w1 := put6 we ge e) rfl rfl (by go_simp; rfl) ?_; clear hs0 hf0 hs1 hf1 hs2 hf2 hs3 hf3 hs4 hf4 hs5 hf5; have HV := Aside0.mk (InvE.start (e := e) HI.out HBE.out HLE.out HGE.out); generalize put6 we ge e = wv at HV ⊢; have v0 : wv.cell? ⟨ge, 0, none⟩ = some (.int .i64 e.f0) := (blk_cell HV.out.ev 0).trans rfl; have v1 : wv.cell? ⟨ge, 1, none⟩ = some (.int .i64 e.f1) := (blk_cell HV.out.ev 1).trans rfl; have v2 : wv.cell? ⟨ge, 2, none⟩ = some (.int .u8 e.f2) := (blk_cell HV.out.ev 2).trans rfl; have v3 : wv.cell? ⟨ge, 3, none⟩ = some (.int .i64 e.f3) := (blk_cell HV.out.ev 3).trans rfl; have v4 : wv.cell? ⟨ge, 4, none⟩ = some (.int .i64 e.f4) := (blk_cell HV.out.ev 4).trans rfl; have v5 : wv.cell? ⟨ge, 5, none⟩ = some (.int .i64 e.f5) := (blk_cell HV.out.ev 5).trans rfl) | ((with_reducible refine gate_callee (f := 39) rfl ?_); (try (refine gate_guard (by rfl) ?_; dsimp only)); refine goesL_ (some 37) rfl rfl Try.func39 (by kernel_rfl) rfl #[.agg #[.int .i64 e.f0, .int .i64 e.f1, .int .u8 e.f2, .int .i64 e.f3, .int .i64 e.f4, .int .i64 e.f5]] rfl (by simp [Act.eval]) ?_; refine (takes_any _ e).mono ?_; rintro e9 w9 ⟨he9, hb9⟩; rw [HTK.out] at he9; subst he9; have HV9 := Aside0.mk (HV.out.below hb9); have u0 : w9.cell? ⟨ge, 0, none⟩ = some (.int .i64 e.f0) := (blk_cell HV9.out.ev 0).trans rfl; have u1 : w9.cell? ⟨ge, 1, none⟩ = some (.int .i64 e.f1) := (blk_cell HV9.out.ev 1).trans rfl; have u2 : w9.cell? ⟨ge, 2, none⟩ = some (.int .u8 e.f2) := (blk_cell HV9.out.ev 2).trans rfl; have u3 : w9.cell? ⟨ge, 3, none⟩ = some (.int .i64 e.f3) := (blk_cell HV9.out.ev 3).trans rfl; have u4 : w9.cell? ⟨ge, 4, none⟩ = some (.int .i64 e.f4) := (blk_cell HV9.out.ev 4).trans rfl; have u5 : w9.cell? ⟨ge, 5, none⟩ = some (.int .i64 e.f5) := (blk_cell HV9.out.ev 5).trans rfl; clear hb9; have HVt := HV9; rw [upTo_skip (plU t) t.length i (by unfold plU; rw [HGB.out]; rfl), MU_skip t i HIN.out HGB.out] at HVt; clear HV9 HV HBE HLE HGE HI v0 v1 v2 v3 v4 v5 u0 u1 u2 u3 u4 u5; have a2 : w9.cell? ⟨ge, 2, none⟩ = some (.int .u8 e.f2) := (blk_cell HVt.out.ev 2).trans rfl; have a3 : w9.cell? ⟨ge, 3, none⟩ = some (.int .i64 e.f3) := (blk_cell HVt.out.ev 3).trans rfl; have a9 : w9.cell? ⟨g, 9, none⟩ = some (.slice (some ⟨ga, 0, none⟩) t.length t.length) := (blk_cell HVt.out.inv.hg 9).trans rfl; have ac : w9.cell? ⟨ga, i, none⟩ = some (.int .i64 ((upTo (laU t) t.length i).getD i 0)) := numsBlk_cell HVt.out.inv.hla i (by simp only [List.length_set, upTo_length]; exact HIN.out); have af : w9.frozen? ⟨ga, i, none⟩ = false := numsBlk_frozen HVt.out.inv.hla i; refine ⟨_, rfl, ?_⟩) | ((with_reducible refine gate_store (t := 3) (p := 64) rfl ?_); refine skipL_ (w1 := w9.setCell ⟨ga, i, none⟩ (.int .i64 (-1))) rfl rfl (by first | (go_simp; done) | (go_simp; rfl)) ?_; have HVu := Aside0.mk (HVt.out.setLa i (-1)); clear a2 a3 a9 ac af; generalize w9.setCell ⟨ga, i, none⟩ (.int .i64 (-1)) = wu at HVu ⊢; have b2 : wu.cell? ⟨ge, 2, none⟩ = some (.int .u8 e.f2) := (blk_cell HVu.out.ev 2).trans rfl; have b3 : wu.cell? ⟨ge, 3, none⟩ = some (.int .i64 e.f3) := (blk_cell HVu.out.ev 3).trans rfl; have b9 : wu.cell? ⟨g, 9, none⟩ = some (.slice (some ⟨ga, 0, none⟩) t.length t.length) := (blk_cell HVu.out.inv.hg 9).trans rfl; have bc : wu.cell? ⟨ga, i, none⟩ = some (.int .i64 (((upTo (laU t) t.length i).set i (-1)).getD i 0)) := numsBlk_cell HVu.out.inv.hla i (by simp only [List.length_set, upTo_length]; exact HIN.out); have bf : wu.frozen? ⟨ga, i, none⟩ = false := numsBlk_frozen HVu.out.inv.hla i; have hlk : (Instr.lookup 77 (.map (some gn)) (.int .i64 e.f3) true).run Try.prog wu = .ok (.tuple #[.int .i64 lu, .bool true]) wu := (by have h1 := NU_look HVu.out.inv.hN e.f3; rw [if_neg HLK.out, decide_eq_false HLK.out, HLU.out] at h1; exact h1)) | ((with_reducible refine gate_store (t := 3) (p := 79) rfl ?_); refine skipL_ (w1 := wu.setCell ⟨ga, i, none⟩ (.int .i64 lu)) rfl rfl (by first | (go_simp; done) | (go_simp; rfl)) ?_; have HVv := Aside0.mk (HVu.out.setLa i lu); clear b2 b3 b9 bc bf; generalize wu.setCell ⟨ga, i, none⟩ (.int .i64 lu) = wv at HVv ⊢; have c2 : wv.cell? ⟨ge, 2, none⟩ = some (.int .u8 e.f2) := (blk_cell HVv.out.ev 2).trans rfl; have c3 : wv.cell? ⟨ge, 3, none⟩ = some (.int .i64 e.f3) := (blk_cell HVv.out.ev 3).trans rfl; have c9 : wv.cell? ⟨g, 9, none⟩ = some (.slice (some ⟨ga, 0, none⟩) t.length t.length) := (blk_cell HVv.out.inv.hg 9).trans rfl))
           go_roundg k1
           case measure => omega
           case rel => exact ⟨i + 1, by go_num, ⟨by have := HK.out; omega⟩, ⟨by have := HIN.out; omega⟩, ⟨by
            have h1 := HVv.out.inv
            have h2 := NU_skip t i HW.out
            rw [HLA.out, h2] at h1
            exact h1⟩⟩
   · have c0 : decide ((i : Int) < (t.length : Int)) = false := decide_eq_false (by omega)
     obtain rfl : i = t.length := by have := HLE0.out; omega
     go_wp2
     go_ret
     exact ⟨g, gl, ga, rfl, HI.out.hg, HI.out.hpl, HI.out.hla, HI.out.bel⟩
end Go.Proofs.Ytojkeabecjlaeaa.P
